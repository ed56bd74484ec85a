/- BoundAt of the program answers as the reference's does, for every list of items, place and prefix, and leaves the list as it was. No condition. -/
import Derived.Test.YtbhklkpjjpkblaaDoorPNx1
import Derived.Test.YtbhklkpjjpkblaaDoorPNx2
import Derived.Test.YtbhklkpjjpkblaaDoorPNx7
import Derived.Test.YtbhklkpjjpkblaaDoorPNx14
import Derived.Test.YtbhklkpjjpkblaaDoorNPItems
import Derived.Test.YtbhklkpjjpkblaaDoorNPGood
import Derived.Test.YtbhklkpjjpkblaaDoorNPDoc
import Derived.Test.YtbhklkpjjpkblaaDoorNPDocUp
import Derived.Test.YtbhklkpjjpkblaaDoorNPBound
namespace Go.Proofs.YtbhklkpjjpkblaaDoor.Pure
open Go.RowKit Go.Proofs.YtbhklkpjjpkblaaDoor.PN Go.Proofs.YtbhklkpjjpkblaaDoorW.PrintWords Go.Proofs.YtbhklkpjjpkblaaDoorW.PrintLast
set_option linter.unusedVariables false
set_option linter.unusedSimpArgs false
theorem FnExactBoundAt : laws_FnExactBoundAt.Pure := by
  intro l n p hl hw _ hp
  refine Ev.rounds (r := true) ?_
  unfold laws_FnExactBoundAt.f
  by_cases big : (p.size : Int) > 1048576
  · simp only [big, if_true]
    exact Ev.now _
  simp only [big, if_false]
  have hok : ∀ y ∈ l, okI y := fun y hy => okI_of (hw y hy)
  obtain ⟨t, ht, hs⟩ := szItemS_ev l (by omega) hok
  refine Ev.bind ht ?_
  by_cases c : t < 0
  · simp only [c, if_true]
    exact Ev.now _
  simp only [c, if_false]
  have hsum := hs (by omega)
  have hsm := small_of (l := l.map cvI) (by omega)
  have ha : ∀ y ∈ l, y.f3.length ≤ 1048576 := fun y hy => by
    have := (hsm (cvI y) (List.mem_map_of_mem hy)).2.2.1
    unfold cvI at this
    simpa using this
  have hto := toItemS_ev l (by omega) ha
  have hlm : (l.map cvI).length ≤ 1048576 := by rw [List.length_map]; omega
  have hend : ∀ b, b = false → Ev (fun k => laws_FnExactBoundAt.j0 k l (l.map cvI) b) true := by
    intro b hb
    subst hb
    refine Ev.step (f := fun k => (laws_toItemS.f k l).bind fun t298 => ((laws_eqItemS.f k (l.map cvI) t298).bind fun t301 => (if t301 = true then (some true) else (some false)))) (fun k => by simp only [laws_FnExactBoundAt.j0, Bool.false_eq_true, if_false]) (Ev.bind hto (Ev.bind (eqItemS_self _ hlm (fun y hy => (hsm y hy).2.2.1)) ?_))
    simp only [if_true]
    exact Ev.now _
  have both : ∃ r, Ev (fun k => spec_BoundAt.f k (l.map cvI) n p) r ∧ Ev (fun k => impl_BoundAt.f k (l.map cvI) n p) r := by
    have hd := spec_DocOk_ev _ hlm hsm (by omega)
    have hh := impl_has_ev _ hlm hsm (by omega) n
    unfold spec_BoundAt.f impl_BoundAt.f
    cases hdb : docB (l.map cvI) with
    | false =>
      rw [hdb] at hd hh
      rw [Bool.false_and] at hh
      refine ⟨((⟨#[]⟩ : ByteArray), false), Ev.bind hd ?_, Ev.bind hh ?_⟩
      · simp only [Bool.false_eq_true, if_false]; exact Ev.now _
      · simp only [Bool.false_eq_true, if_false]; exact Ev.now _
    | true =>
      rw [hdb] at hd hh
      rw [Bool.true_and] at hh
      have hlen := docB_length _ hdb
      by_cases cn : 0 ≤ n ∧ n ≤ ((l.map cvI).length : Int) - 1
      · obtain ⟨m, rfl⟩ := Int.eq_ofNat_of_zero_le cn.1
        obtain ⟨r, h1, h2⟩ := bound_f (l.map cvI) p hp hlen hsm (docB_up _ hdb) m (by omega)
        have e : inR (m : Int) 0 (((l.map cvI).length : Int) - 1) = true := inR_true.2 cn
        rw [e] at hh
        refine ⟨r, Ev.bind hd ?_, Ev.bind hh ?_⟩
        · simp only [if_true, spec_l1In_eq, Option.bind_some]
          rw [w64 (x := ((l.map cvI).length : Int) - 1) (by omega) (by omega), e]
          simp only [if_true]
          exact Ev.bind h1 (Ev.now _)
        · simp only [if_true]
          exact Ev.bind h2 (Ev.now _)
      · have e : inR n 0 (((l.map cvI).length : Int) - 1) = false := decide_eq_false cn
        rw [e] at hh
        refine ⟨((⟨#[]⟩ : ByteArray), false), Ev.bind hd ?_, Ev.bind hh ?_⟩
        · simp only [if_true, spec_l1In_eq, Option.bind_some]
          rw [w64 (x := ((l.map cvI).length : Int) - 1) (by omega) (by omega), e]
          simp only [Bool.false_eq_true, if_false]
          exact Ev.now _
        · simp only [Bool.false_eq_true, if_false]
          exact Ev.now _
  obtain ⟨r, h1, h2⟩ := both
  refine Ev.bind hto (Ev.bind h1 (Ev.bind hto (Ev.bind h2 ?_)))
  simp only [if_true]
  exact hend _ (bne_self_eq_false _)
end Go.Proofs.YtbhklkpjjpkblaaDoor.Pure
