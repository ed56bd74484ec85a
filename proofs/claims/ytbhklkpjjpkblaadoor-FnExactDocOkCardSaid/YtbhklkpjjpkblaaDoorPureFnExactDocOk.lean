/- DocOk of the program answers as the reference's does, for every list of items, and leaves it as it was. No condition. -/
import Derived.Test.YtbhklkpjjpkblaaDoorPDx13
import Derived.Test.YtbhklkpjjpkblaaDoorDPItems
import Derived.Test.YtbhklkpjjpkblaaDoorDPGood
import Derived.Test.YtbhklkpjjpkblaaDoorDPDoc
namespace Go.Proofs.YtbhklkpjjpkblaaDoor.Pure
open Go.RowKit Go.Proofs.YtbhklkpjjpkblaaDoor.PD Go.Proofs.YtbhklkpjjpkblaaDoorW.PrintWords Go.Proofs.YtbhklkpjjpkblaaDoorW.PrintLast
set_option linter.unusedVariables false
set_option linter.unusedSimpArgs false
theorem FnExactDocOk : laws_FnExactDocOk.Pure := by
  intro l hl hw
  refine Ev.rounds (r := true) ?_
  unfold laws_FnExactDocOk.f
  have hok : ∀ y ∈ l, okI y := fun y hy => okI_of (hw y hy)
  obtain ⟨t, ht, hs⟩ := szItemS_ev l (by omega) hok
  refine Ev.bind ht ?_
  by_cases c : t < 0
  · simp only [c, if_true]
    exact Ev.now _
  simp only [c, if_false]
  have hsum := hs (by omega)
  have hsm := small_of (l := l.map cvI) (by omega)
  have ha : ∀ y ∈ l, y.f3.length ≤ 1048576 := fun y hy => by
    have := (hsm (cvI y) (List.mem_map_of_mem hy)).2.2.1
    unfold cvI at this
    simpa using this
  have hto := toItemS_ev l (by omega) ha
  have hlm : (l.map cvI).length ≤ 1048576 := by rw [List.length_map]; omega
  refine Ev.bind hto (Ev.bind (spec_DocOk_ev _ hlm hsm (by omega)) (Ev.bind hto (Ev.bind (impl_DocOk_ev _ hlm hsm (by omega)) ?_)))
  simp only [bne_self_eq_false, Bool.false_eq_true, if_false]
  refine Ev.bind hto (Ev.bind (eqItemS_self _ hlm (fun y hy => (hsm y hy).2.2.1)) ?_)
  simp only [if_true]
  exact Ev.now _
end Go.Proofs.YtbhklkpjjpkblaaDoor.Pure
