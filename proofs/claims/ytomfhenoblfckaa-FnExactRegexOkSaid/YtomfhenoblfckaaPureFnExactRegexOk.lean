/- RegexOk of the program answers as the reference's does, for every list of pattern nodes, and leaves its list as it was. No condition. -/
import Derived.Test.YtomfhenoblfckaaPRx0
import Derived.Test.YtomfhenoblfckaaPRx8
import Derived.Test.YtomfhenoblfckaaRPRegex
import Derived.Test.YtomfhenoblfckaaRPRegexT
import Derived.Test.YtomfhenoblfckaaRPRegexI
import Derived.Test.YtomfhenoblfckaaRPRegexC
namespace Go.Proofs.Ytomfhenoblfckaa.Pure
open Go.RowKit Go.Proofs.Ytomfhenoblfckaa.PR Go.Proofs.YtomfhenoblfckaaW.PrintWords Go.Proofs.YtomfhenoblfckaaW.PrintLast
set_option linter.unusedVariables false
set_option linter.unusedSimpArgs false
theorem FnExactRegexOk : laws_FnExactRegexOk.Pure := by
  intro l hl hw
  refine Ev.rounds (r := true) ?_
  unfold laws_FnExactRegexOk.f
  obtain ⟨t, ht, hsm⟩ := szRNodeS_ev l (by omega) (fun y hy => by have := (hw y hy).2.1; omega)
  refine Ev.bind ht ?_
  by_cases c : t < 0
  · simp only [c, if_true]
    exact Ev.now _
  simp only [c, if_false]
  obtain ⟨hlen, hs⟩ := hsm (by omega)
  have hk : ∀ j : Nat, (rd_T41 (l.map cvX) (j : Int)).f2.length ≤ 140737488351232 := fun j => by have := rdX_small l hs j; omega
  refine Ev.bind (toRNodeS_ev l hlen hs) (Ev.bind (spec_RegexOk_ev _ hk) (Ev.bind (toRNodeS_ev l hlen hs) (Ev.bind (impl_RegexOk_ev _ hk) ?_)))
  simp only [bne_self_eq_false, Bool.false_eq_true, if_false]
  refine Ev.bind (toRNodeS_ev l hlen hs) (Ev.bind (eqRNodeS_self _ (by rw [List.length_map]; exact hlen) (fun y hy => ?_)) ?_)
  · obtain ⟨x, hx, rfl⟩ := List.mem_map.mp hy
    show (x.f2.map cvR).length ≤ 1048576
    rw [List.length_map]
    exact hs x hx
  · simp only [if_true]
    exact Ev.now _
end Go.Proofs.Ytomfhenoblfckaa.Pure
