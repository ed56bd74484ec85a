/- The size of a list of particles. -/
import Derived.Test.YtaliphegdclkfaaPUx0
import Derived.Test.YtaliphegdclkfaaPUx1
import Derived.Test.YtaliphegdclkfaaUPBase
import Derived.Test.YtaliphegdclkfaaUPIn
import Derived.Test.YtaliphegdclkfaaUPPartsC
import Derived.Test.YtaliphegdclkfaaUPTurnMarks
namespace Go.Proofs.Ytaliphegdclkfaa.PU
open Go.RowKit Go.Proofs.YtaliphegdclkfaaW.PrintWords Go.Proofs.YtaliphegdclkfaaW.PrintMore
set_option linter.unusedVariables false
set_option linter.unusedSimpArgs false
def wP : List S43 → Nat
  | [] => 0
  | x :: l => x.f1.size + x.f2.length + wP l
theorem szPNode_sum (x : S43) (a : Int) (h0 : 0 ≤ a) (h1 : a ≤ 1048576) (hs : x.f1.size ≤ 140737488351232) (hl : x.f2.length ≤ 140737488351232) : ∃ t, laws_szPNode.f x.f0 x.f1 x.f2 x.f3 a = some t ∧ (0 ≤ t → t + x.f1.size + x.f2.length = a) := by
  unfold laws_szPNode.f laws_szInt64S.f
  rw [w64 (x := a - (x.f1.size : Int)) (by omega) (by omega), w64 (x := a - (x.f1.size : Int) - (x.f2.length : Int)) (by omega) (by omega)]
  by_cases c : a - (x.f1.size : Int) < 0
  · exact ⟨-1, by rw [if_pos c], by omega⟩
  rw [if_neg c]
  by_cases c2 : a - (x.f1.size : Int) - (x.f2.length : Int) < 0
  · exact ⟨-1, by rw [if_pos c2]; rfl, by omega⟩
  · refine ⟨a - (x.f1.size : Int) - (x.f2.length : Int), ?_, fun _ => by omega⟩
    rw [if_neg c2]
    simp only [Option.bind_some]
    rw [if_neg c2]
theorem szPNodeS_l0_sum (l : List S43) (hl : l.length ≤ 140737488351232) (hs : ∀ y ∈ l, y.f1.size ≤ 140737488351232 ∧ y.f2.length ≤ 140737488351232) : ∀ d n, n + d = l.length → ∀ a : Int, 0 ≤ a → a ≤ 1048576 → ∃ t, Ev (fun k => laws_szPNodeS.l0 k l a (n : Int)) t ∧ (0 ≤ t → t + wP (l.drop n) = a) := by
  intro d
  induction d with
  | zero =>
    intro n hn a h0 h1
    refine ⟨a, Ev.later fun k => ?_, fun _ => ?_⟩
    · simp only [laws_szPNodeS.l0]
      rw [if_neg (cast_nlt (by omega))]
    · rw [List.drop_eq_nil_of_le (by omega)]
      simp [wP]
  | succ d ih =>
    intro n hn a h0 h1
    have hn2 : n < l.length := by omega
    have e : rd_T43 l (n : Int) = l[n] := by unfold rd_T43; simp [List.getD_eq_getElem?_getD, hn2]
    obtain ⟨hs1, hs2⟩ := hs l[n] (List.getElem_mem hn2)
    obtain ⟨t, ht, hsm⟩ := szPNode_sum l[n] a h0 h1 hs1 hs2
    by_cases c : t < 0
    · refine ⟨-1, Ev.later fun k => ?_, by omega⟩
      simp only [laws_szPNodeS.l0]
      rw [if_pos (cast_lt hn2), if_pos (by omega), e, ht]
      simp only [Option.bind_some, if_pos c]
    · have hsm := hsm (by omega)
      obtain ⟨t2, ht2, hall⟩ := ih (n + 1) (by omega) t (by omega) (by omega)
      refine ⟨t2, Ev.step (fun k => ?_) ht2, fun h => ?_⟩
      · simp only [laws_szPNodeS.l0]
        rw [if_pos (cast_lt hn2), if_pos (by omega), e, ht]
        simp only [Option.bind_some, if_neg c]
        rw [wrap_succ (n := l.length) (by omega) (cast_lt hn2) (by omega)]
        rfl
      · rw [List.drop_eq_getElem_cons hn2]
        have := hall h
        simp only [wP]
        omega
theorem szPNodeS_sum (l : List S43) (hl : l.length ≤ 140737488351232) (hs : ∀ y ∈ l, y.f1.size ≤ 140737488351232 ∧ y.f2.length ≤ 140737488351232) : ∃ t, Ev (fun k => laws_szPNodeS.f k l 1048576) t ∧ (0 ≤ t → l.length + wP l ≤ 1048576) := by
  unfold laws_szPNodeS.f
  rw [w64 (x := 1048576 - (l.length : Int)) (by omega) (by omega)]
  by_cases c : 1048576 - (l.length : Int) < 0
  · refine ⟨-1, ?_, by omega⟩
    simp only [if_pos c]
    exact Ev.now _
  · simp only [if_neg c]
    obtain ⟨t, ht, h⟩ := szPNodeS_l0_sum l hl hs l.length 0 (by omega) (1048576 - (l.length : Int)) (by omega) (by omega)
    exact ⟨t, ht, fun h0 => by have := h h0; rw [List.drop_zero] at this; omega⟩
theorem wP_small {l : List S43} (h : wP l ≤ 1048576) : ∀ y ∈ l, smallN y := by
  induction l with
  | nil => intro y hy; cases hy
  | cons x l ih =>
    simp only [wP] at h
    intro y hy
    rcases List.mem_cons.mp hy with e | e
    · subst e; exact ⟨by omega, by omega⟩
    · exact ih (by omega) y e
theorem wM_sum (l : List S43) : wM (l.map cvN) ≤ 3 * l.length + wP l := by
  induction l with
  | nil => exact Nat.le_refl _
  | cons x l ih =>
    rw [List.map_cons, List.length_cons]
    have e : (cvN x).f2.length = x.f2.length := rfl
    have e2 : wP (x :: l) = x.f1.size + x.f2.length + wP l := rfl
    rw [wM, e, e2]
    omega
end Go.Proofs.Ytaliphegdclkfaa.PU
