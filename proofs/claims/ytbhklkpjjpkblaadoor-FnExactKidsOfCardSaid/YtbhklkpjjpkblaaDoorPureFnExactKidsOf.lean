/- KidsOf of the program answers as the reference's does, for every list of items and place, leaves the list as it was, and its answer is its own. No condition. -/
import Derived.Test.YtbhklkpjjpkblaaDoorPKx7
import Derived.Test.YtbhklkpjjpkblaaDoorPKx13
import Derived.Test.YtbhklkpjjpkblaaDoorPKx14
import Derived.Test.YtbhklkpjjpkblaaDoorKPAll
namespace Go.Proofs.YtbhklkpjjpkblaaDoor.Pure
open Go.RowKit Go.Proofs.YtbhklkpjjpkblaaDoor.PK Go.Proofs.YtbhklkpjjpkblaaDoorW.PrintWords Go.Proofs.YtbhklkpjjpkblaaDoorW.PrintLast
set_option linter.unusedVariables false
set_option linter.unusedSimpArgs false
theorem FnExactKidsOf : laws_FnExactKidsOf.Pure := by
  intro l n hl hw _
  refine Ev.rounds (r := true) ?_
  unfold laws_FnExactKidsOf.f
  have hok : ∀ y ∈ l, okI y := fun y hy => okI_of (hw y hy)
  obtain ⟨t, ht, hs⟩ := szItemS_ev l (by omega) hok
  refine Ev.bind ht ?_
  by_cases c : t < 0
  · simp only [c, if_true]
    exact Ev.now _
  simp only [c, if_false]
  have hsum := hs (by omega)
  have hsm := small_of (l := l.map cvI) (by omega)
  have ha : ∀ y ∈ l, y.f3.length ≤ 1048576 := fun y hy => by
    have := (hsm (cvI y) (List.mem_map_of_mem hy)).2.2.1
    unfold cvI at this
    simpa using this
  have hto := toItemS_ev l (by omega) ha
  have hlm : (l.map cvI).length ≤ 1048576 := by rw [List.length_map]; omega
  have both : ∃ r : List Int, r.length ≤ 200 ∧ Ev (fun k => spec_KidsOf.f k (l.map cvI) n) r ∧ Ev (fun k => impl_KidsOf.f k (l.map cvI) n) r := by
    have hd := spec_DocOk_ev _ hlm hsm (by omega)
    have hh := impl_has_ev _ hlm hsm (by omega) n
    unfold spec_KidsOf.f impl_KidsOf.f
    simp only [Option.bind_some]
    cases hdb : docB (l.map cvI) with
    | false =>
      rw [hdb] at hd hh
      rw [Bool.false_and] at hh
      refine ⟨[], by simp, Ev.bind hd ?_, Ev.bind hh ?_⟩
      · simp only [Bool.false_eq_true, if_false]; exact Ev.now _
      · simp only [Bool.false_eq_true, if_false]; exact Ev.now _
    | true =>
      rw [hdb] at hd hh
      rw [Bool.true_and] at hh
      have hlen := docB_length _ hdb
      have hup := docB_up _ hdb
      by_cases cn : 0 ≤ n ∧ n ≤ ((l.map cvI).length : Int) - 1
      · have e : inR n 0 (((l.map cvI).length : Int) - 1) = true := inR_true.2 cn
        rw [e] at hh
        obtain ⟨m, rfl⟩ := Int.eq_ofNat_of_zero_le cn.1
        have q1 : (m : Int) < ((l.map cvI).length : Int) := by omega
        have hkl := kidsR_length (l.map cvI) (m : Int) ((l.map cvI).length - (m + 1)) (m + 1)
        refine ⟨kidsR (l.map cvI) (m : Int) ((l.map cvI).length - (m + 1)) (m + 1), by omega, Ev.bind hd ?_, Ev.bind hh ?_⟩
        · simp only [if_true, spec_l1In_eq, Option.bind_some]
          rw [w64 (x := ((l.map cvI).length : Int) - 1) (by omega) (by omega), e]
          simp only [if_true]
          exact Ev.bind (kids_ev _ hlen m (by omega)) (Ev.now _)
        · simp only [if_true]
          refine Ev.bind (below_ev _ hlen hup) ?_
          rw [if_pos (by omega), if_pos (by rw [bel_length, List.length_replicate]; exact q1), below_at _ hup m (by omega)]
          simp only [List.length_nil, List.nil_append, Nat.zero_add]
          rw [if_pos (by omega)]
          exact Ev.now _
      · have e : inR n 0 (((l.map cvI).length : Int) - 1) = false := decide_eq_false cn
        rw [e] at hh
        refine ⟨[], by simp, Ev.bind hd ?_, Ev.bind hh ?_⟩
        · simp only [if_true, spec_l1In_eq, Option.bind_some]
          rw [w64 (x := ((l.map cvI).length : Int) - 1) (by omega) (by omega), e]
          simp only [Bool.false_eq_true, if_false]
          exact Ev.now _
        · simp only [Bool.false_eq_true, if_false]
          exact Ev.now _
  obtain ⟨r, hr, h1, h2⟩ := both
  obtain ⟨tm, hm, hm0⟩ := markI (l.map cvI) (by rw [List.length_map]; omega)
  have he := eqInt64S_self r (by omega)
  refine Ev.bind hto (Ev.bind h1 (Ev.bind hto (Ev.bind h2 (Ev.bind he ?_))))
  simp only [if_true]
  refine Ev.bind hto (Ev.bind (eqItemS_self _ hlm (fun y hy => (hsm y hy).2.2.1)) ?_)
  simp only [if_true, hm, Option.bind_some, hm0, if_false]
  refine Ev.bind he ?_
  simp only [Bool.not_true]
  refine Ev.step (f := ?fa) (fun k => ?a) ?b
  case a => simp only [laws_FnExactKidsOf.j0, Bool.false_eq_true, if_false]; rfl
  case b =>
    refine Ev.bind (markInt64S_ev r (by omega)) (Ev.bind (heldInt64S_ev _ (by omega)) ?_)
    have q : ¬ ((r.length : Int) + 1 < 0) := by omega
    simp only [q, if_false, if_true]
    refine Ev.bind hto (Ev.bind h2 (Ev.bind he ?_))
    simp only [if_true]
    refine Ev.bind (heldInt64S_ev _ (by omega)) ?_
    simp only [q, if_false, if_true]
    exact Ev.now _
end Go.Proofs.YtbhklkpjjpkblaaDoor.Pure
