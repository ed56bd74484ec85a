/- The laws' own small functions on lists of pattern nodes: how much they weigh, the copy, the comparison. -/
import Derived.Test.YtomfhenoblfckaaPRx0
import Derived.Test.YtomfhenoblfckaaPRx4
import Derived.Test.YtomfhenoblfckaaPRx7
import Derived.Test.YtomfhenoblfckaaPRx8
import Derived.Test.YtomfhenoblfckaaRPBase
import Derived.Test.YtomfhenoblfckaaRPIn
import Derived.Test.YtomfhenoblfckaaRPRegexA
namespace Go.Proofs.Ytomfhenoblfckaa.PR
open Go.RowKit Go.Proofs.YtomfhenoblfckaaW.PrintWords Go.Proofs.YtomfhenoblfckaaW.PrintMore
set_option linter.unusedVariables false
set_option linter.unusedSimpArgs false
theorem szRNodeS_l0_ev (l : List S36) (hl : l.length ≤ 140737488351232) (hs : ∀ y ∈ l, y.f2.length ≤ 140737488351232) : ∀ d n, n + d = l.length → ∀ a : Int, 0 ≤ a → a ≤ 1048576 → ∃ t, Ev (fun k => laws_szRNodeS.l0 k l a (n : Int)) t ∧ (0 ≤ t → ∀ y ∈ l.drop n, smallX y) := by
  intro d
  induction d with
  | zero =>
    intro n hn a h0 h1
    refine ⟨a, Ev.later fun k => ?_, fun _ y hy => ?_⟩
    · simp only [laws_szRNodeS.l0]
      rw [if_neg (cast_nlt (by omega))]
    · rw [List.drop_eq_nil_of_le (by omega)] at hy; cases hy
  | succ d ih =>
    intro n hn a h0 h1
    have hn2 : n < l.length := by omega
    have e : rd_T36 l (n : Int) = l[n] := by unfold rd_T36; simp [List.getD_eq_getElem?_getD, hn2]
    obtain ⟨t, ht, hsm⟩ := szRNode_at l[n] a h0 h1 (hs l[n] (List.getElem_mem hn2))
    by_cases c : t < 0
    · refine ⟨-1, Ev.later fun k => ?_, by omega⟩
      simp only [laws_szRNodeS.l0]
      rw [if_pos (cast_lt hn2), if_pos (by omega), e, ht]
      simp only [Option.bind_some, if_pos c]
    · have hsm := hsm (by omega)
      obtain ⟨t2, ht2, hall⟩ := ih (n + 1) (by omega) t (by omega) (by omega)
      refine ⟨t2, Ev.step (fun k => ?_) ht2, fun h y hy => ?_⟩
      · simp only [laws_szRNodeS.l0]
        rw [if_pos (cast_lt hn2), if_pos (by omega), e, ht]
        simp only [Option.bind_some, if_neg c]
        rw [wrap_succ (n := l.length) (by omega) (cast_lt hn2) (by omega)]
        rfl
      · rw [List.drop_eq_getElem_cons hn2] at hy
        rcases List.mem_cons.mp hy with e2 | e2
        · subst e2; exact hsm.2
        · exact hall h y e2
theorem szRNodeS_ev (l : List S36) (hl : l.length ≤ 140737488351232) (hs : ∀ y ∈ l, y.f2.length ≤ 140737488351232) : ∃ t, Ev (fun k => laws_szRNodeS.f k l 1048576) t ∧ (0 ≤ t → l.length ≤ 1048576 ∧ ∀ y ∈ l, smallX y) := by
  unfold laws_szRNodeS.f
  rw [w64 (x := 1048576 - (l.length : Int)) (by omega) (by omega)]
  by_cases c : 1048576 - (l.length : Int) < 0
  · refine ⟨-1, ?_, by omega⟩
    simp only [if_pos c]
    exact Ev.now _
  · simp only [if_neg c]
    obtain ⟨t, ht, h⟩ := szRNodeS_l0_ev l hl hs l.length 0 (by omega) (1048576 - (l.length : Int)) (by omega) (by omega)
    exact ⟨t, ht, fun h0 => ⟨by omega, by simpa using h h0⟩⟩
theorem toRNodeS_l0_ev (l : List S36) (hl : l.length ≤ 1048576) (hs : ∀ y ∈ l, smallX y) : ∀ (d n : Nat) (r : List S41), n + d = l.length → r.length = d → Ev (fun k => laws_toRNodeS.l0 k l ((l.take n).map cvX ++ r) (n : Int)) (l.map cvX) := by
  intro d
  induction d with
  | zero =>
    intro n r hn hr
    refine Ev.later fun k => ?_
    simp only [laws_toRNodeS.l0]
    rw [if_neg (cast_nlt (by omega))]
    have : r = [] := List.eq_nil_of_length_eq_zero hr
    subst this
    rw [List.append_nil, List.take_of_length_le (by omega)]
  | succ d ih =>
    intro n r hn hr
    have hn2 : n < l.length := by omega
    have e : rd_T36 l (n : Int) = l[n] := by unfold rd_T36; simp [List.getD_eq_getElem?_getD, hn2]
    have hlen : ((l.take n).map cvX ++ r).length = l.length := by rw [List.length_append, List.length_map, List.length_take]; omega
    refine Ev.step (f := fun k => (laws_toRNode.f k l[n].f0 l[n].f1 l[n].f2 l[n].f3 l[n].f4 l[n].f5 l[n].f6).bind fun bt => (laws_toRNodeS.l0 k l (((l.take n).map cvX ++ r).set n (⟨bt.1, bt.2.1, bt.2.2.1, bt.2.2.2.1, bt.2.2.2.2.1, bt.2.2.2.2.2.1, bt.2.2.2.2.2.2⟩ : S41)) ((n + 1 : Nat) : Int))) (fun k => ?_) ?_
    · simp only [laws_toRNodeS.l0]
      rw [if_pos (cast_lt hn2), if_pos (by omega), e, hlen, wrap_succ (n := l.length) (by omega) (cast_lt hn2) (by omega)]
      simp only [if_pos (cast_lt hn2), Int.toNat_natCast]
      rfl
    refine Ev.bind (toRNode_ev _ (hs _ (List.getElem_mem hn2))) ?_
    have hsub := ih (n + 1) r.tail (by omega) (by rw [List.length_tail]; omega)
    rw [set_next ((l.take n).map cvX) r n _ z41 (by rw [List.length_map, List.length_take]; omega) (by omega)]
    rw [List.take_succ_eq_append_getElem hn2, List.map_append] at hsub
    exact hsub
theorem toRNodeS_ev (l : List S36) (hl : l.length ≤ 1048576) (hs : ∀ y ∈ l, smallX y) : Ev (fun k => laws_toRNodeS.f k l) (l.map cvX) := by
  unfold laws_toRNodeS.f
  simp only [show ((0 : Int) ≤ (l.length : Int)) = True from eq_true (by omega), if_true, Int.toNat_natCast, show (l.length ≤ 3909374676536) = True from eq_true (by omega)]
  have := toRNodeS_l0_ev l hl hs l.length 0 (List.replicate l.length z41) (by omega) (by simp)
  simpa using this
theorem eqRNodeS_self (l : List S41) (hl : l.length ≤ 1048576) (hs : ∀ y ∈ l, y.f2.length ≤ 1048576) : Ev (fun k => laws_eqRNodeS.f k l l) true := by
  have main : ∀ d n, n + d = l.length → Ev (fun k => laws_eqRNodeS.l0 k l l (n : Int)) true := by
    intro d
    induction d with
    | zero =>
      intro n hn
      refine Ev.later fun k => ?_
      simp only [laws_eqRNodeS.l0]
      rw [if_neg (cast_nlt (by omega))]
    | succ d ih =>
      intro n hn
      have hn2 : n < l.length := by omega
      have e : rd_T41 l (n : Int) = l[n] := by unfold rd_T41; simp [List.getD_eq_getElem?_getD, hn2]
      refine Ev.step (f := fun k => (laws_eqRNode.f k l[n].f0 l[n].f1 l[n].f2 l[n].f3 l[n].f4 l[n].f5 l[n].f6 l[n].f0 l[n].f1 l[n].f2 l[n].f3 l[n].f4 l[n].f5 l[n].f6).bind fun t => (if t = true then (laws_eqRNodeS.l0 k l l ((n + 1 : Nat) : Int)) else (some false))) (fun k => ?_) ?_
      · simp only [laws_eqRNodeS.l0]
        rw [if_pos (cast_lt hn2), if_pos (by omega), if_pos (cast_lt hn2), e, wrap_succ (n := l.length) (by omega) (cast_lt hn2) (by omega)]
        rfl
      refine Ev.bind (a := true) ?_ ?_
      · unfold laws_eqRNode.f
        simp only [if_true, bne_self_eq_false, Bool.false_eq_true, if_false]
        refine Ev.bind (eqRangeS_self _ (hs _ (List.getElem_mem hn2))) ?_
        simp only [if_true]
        exact Ev.now _
      · simp only [if_true]
        exact ih (n + 1) (by omega)
  unfold laws_eqRNodeS.f
  simp only [if_true]
  exact main l.length 0 (by omega)
theorem rdX_small (l : List S36) (hs : ∀ y ∈ l, smallX y) (j : Nat) : (rd_T41 (l.map cvX) (j : Int)).f2.length ≤ 1048576 := by
  unfold rd_T41
  simp only [Int.toNat_natCast, List.getD_eq_getElem?_getD, List.getElem?_map]
  by_cases h : j < l.length
  · rw [List.getElem?_eq_getElem h]
    show (l[j].f2.map cvR).length ≤ 1048576
    rw [List.length_map]
    exact hs _ (List.getElem_mem h)
  · rw [List.getElem?_eq_none (by omega)]
    exact (by decide)
end Go.Proofs.Ytomfhenoblfckaa.PR
