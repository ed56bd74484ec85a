/- Turned of the program answers as the reference's does, for every list of particles, leaves its list as it was, and its answer is its own. No condition. -/
import Derived.Test.YtaliphegdclkfaaPUx0
import Derived.Test.YtaliphegdclkfaaPUx5
import Derived.Test.YtaliphegdclkfaaPUx9
import Derived.Test.YtaliphegdclkfaaPUx10
import Derived.Test.YtaliphegdclkfaaUPParts
import Derived.Test.YtaliphegdclkfaaUPPartsI
import Derived.Test.YtaliphegdclkfaaUPPartsC
import Derived.Test.YtaliphegdclkfaaUPTurnSz
import Derived.Test.YtaliphegdclkfaaUPTurnMarks
import Derived.Test.YtaliphegdclkfaaUPTurnT
namespace Go.Proofs.Ytaliphegdclkfaa.Pure
open Go.RowKit Go.Proofs.Ytaliphegdclkfaa.PU Go.Proofs.YtaliphegdclkfaaW.PrintWords Go.Proofs.YtaliphegdclkfaaW.PrintLast
set_option linter.unusedVariables false
set_option linter.unusedSimpArgs false
theorem FnExactTurned (l : List S43) (hl : l.length * 56 ≤ 140737488351232) (hw : ∀ y ∈ l, WF43 y) : ∃ k, laws_FnExactTurned.F k l := by
  obtain ⟨t, ht, hsm⟩ := szPNodeS_sum l (by omega) (fun y hy => by have := hw y hy; exact ⟨this.2.1, by have := this.2.2.1; omega⟩)
  by_cases c : t < 0
  · obtain ⟨k, hk⟩ := ht
    exact ⟨k, t, hk k (Nat.le_refl _), .inl c⟩
  have hsum := hsm (by omega)
  have hs := wP_small (l := l) (by omega)
  have hlen : l.length ≤ 1048576 := by omega
  have hk : ∀ j : Nat, (rd_T44 (l.map cvN) (j : Int)).f2.length ≤ 140737488351232 := fun j => by have := (rd_small l hs j).2; omega
  have hn : ∀ j : Nat, (rd_T44 (l.map cvN) (j : Int)).f1.size ≤ 140737488351232 := fun j => by have := (rd_small l hs j).1; omega
  have hto := toPNodeS_ev l hlen hs
  have heq := eqPNodeS_self (l.map cvN) (by rw [List.length_map]; exact hlen) (fun y hy => by
    obtain ⟨x, hx, rfl⟩ := List.mem_map.mp hy
    exact (hs x hx).2)
  have hwm : wM (l.map cvN) + 1 ≤ 9000000 ∧ (l.map cvN).length ≤ 9000000 := by
    have := wM_sum l
    rw [List.length_map]
    omega
  have both : ∃ (r : List PNd) (q : Bool), r.length ≤ 40 ∧ thin r ∧ Ev (fun k => spec_Turned.f k (l.map cvN)) (r, q) ∧ Ev (fun k => impl_Turned.f k (l.map cvN)) (r, q) := by
    unfold spec_Turned.f impl_Turned.f
    have hb1 := spec_ParticleOk_ev _ hk hn
    have hb2 := impl_ParticleOk_ev _ hk hn
    by_cases hp : partOk (l.map cvN)
    · rw [Bof_true hp] at hb1 hb2
      have h1 := hp.1
      have h2 := hp.2.1
      have T := Tr.of hp
      have hc := T.cnt_le ((l.map cvN).length - 1) (by omega)
      have hl := T.length ((l.map cvN).length - 1) (by omega) []
      have e : wrap64 (((l.map cvN).length : Int) - 1) = (((l.map cvN).length - 1 : Nat) : Int) := by rw [w64 (by omega) (by omega)]; omega
      refine ⟨tn (l.map cvN) ((l.map cvN).length - 1) [], true, by rw [hl]; simpa using hc, T.thin _ (by omega) [] (fun x hx => by cases hx), Ev.bind hb1 ?_, Ev.bind hb2 ?_⟩
      · simp only [if_true, e]
        exact Ev.bind (spec_turn_ev T _ (by omega) [] (by have h0 : ([] : List PNd).length = 0 := rfl; omega)) (Ev.now _)
      · simp only [if_true, e]
        exact Ev.bind (impl_turn_ev T _ (by omega) [] (by have h0 : ([] : List PNd).length = 0 := rfl; omega)) (Ev.now _)
    · rw [Bof_false hp] at hb1 hb2
      refine ⟨[], false, by simp, (fun x hx => by cases hx), Ev.bind hb1 ?_, Ev.bind hb2 ?_⟩
      · simp only [Bool.false_eq_true, if_false]; exact Ev.now _
      · simp only [Bool.false_eq_true, if_false]; exact Ev.now _
  obtain ⟨r, q, hr, hthin, h1, h2⟩ := both
  have hwr := wM_thin r hthin
  have hel := eqPNodeS_self r (by omega) (fun y hy => by have := hthin y hy; omega)
  have hmx := markM_ev (l.map cvN) (by omega) (by omega)
  have hml := markM_ev r (by omega) (by omega)
  have hhl := heldM_ev r (by omega) (by omega)
  obtain ⟨k0, e0⟩ := ht
  obtain ⟨k1, e1⟩ := hto
  obtain ⟨k2, e2⟩ := h1
  obtain ⟨k3, e3⟩ := h2
  obtain ⟨k4, e4⟩ := hel
  obtain ⟨k5, e5⟩ := heq
  obtain ⟨k6, e6⟩ := hmx
  obtain ⟨k7, e7⟩ := hml
  obtain ⟨k8, e8⟩ := hhl
  exact ⟨k0 + k1 + k2 + k3 + k4 + k5 + k6 + k7 + k8, t, e0 _ (by omega), .inr ⟨by omega, l.map cvN, r, q, 1 + (wM (l.map cvN) : Int), mM 1 (l.map cvN), 1 + (wM r : Int), mM 1 r, e1 _ (by omega), e2 _ (by omega), e3 _ (by omega), e4 _ (by omega), e5 _ (by omega), e6 _ (by omega), by omega, e7 _ (by omega), e8 _ (by omega), by omega⟩⟩
end Go.Proofs.Ytaliphegdclkfaa.Pure
