/- The laws' own small functions on lists of particles: how much they weigh, the copy, the comparison. -/
import Derived.Test.YtaliphegdclkfaaPLx0
import Derived.Test.YtaliphegdclkfaaPLx1
import Derived.Test.YtaliphegdclkfaaPLx2
import Derived.Test.YtaliphegdclkfaaLPBase
import Derived.Test.YtaliphegdclkfaaLPIn
import Derived.Test.YtaliphegdclkfaaLPInts
namespace Go.Proofs.Ytaliphegdclkfaa.PL
open Go.RowKit Go.Proofs.YtaliphegdclkfaaW.PrintWords Go.Proofs.YtaliphegdclkfaaW.PrintMore
set_option linter.unusedVariables false
set_option linter.unusedSimpArgs false
def cvN (x : S43) : S44 := ⟨x.f0, x.f1, x.f2, x.f3⟩
theorem szPNode_at (x : S43) (a : Int) (h0 : 0 ≤ a) (h1 : a ≤ 1048576) (hs : x.f1.size ≤ 140737488351232) (hl : x.f2.length ≤ 140737488351232) : ∃ t, laws_szPNode.f x.f0 x.f1 x.f2 x.f3 a = some t ∧ (0 ≤ t → t ≤ a ∧ x.f1.size ≤ 1048576 ∧ x.f2.length ≤ 1048576) := by
  unfold laws_szPNode.f laws_szInt64S.f
  rw [w64 (x := a - (x.f1.size : Int)) (by omega) (by omega), w64 (x := a - (x.f1.size : Int) - (x.f2.length : Int)) (by omega) (by omega)]
  by_cases c : a - (x.f1.size : Int) < 0
  · exact ⟨-1, by rw [if_pos c], by omega⟩
  rw [if_neg c]
  by_cases c2 : a - (x.f1.size : Int) - (x.f2.length : Int) < 0
  · exact ⟨-1, by rw [if_pos c2]; rfl, by omega⟩
  · refine ⟨a - (x.f1.size : Int) - (x.f2.length : Int), ?_, fun _ => ⟨by omega, by omega, by omega⟩⟩
    rw [if_neg c2]
    simp only [Option.bind_some]
    rw [if_neg c2]
def smallN (x : S43) : Prop := x.f1.size ≤ 1048576 ∧ x.f2.length ≤ 1048576
theorem szPNodeS_l0_ev (l : List S43) (hl : l.length ≤ 140737488351232) (hs : ∀ y ∈ l, y.f1.size ≤ 140737488351232 ∧ y.f2.length ≤ 140737488351232) : ∀ d n, n + d = l.length → ∀ a : Int, 0 ≤ a → a ≤ 1048576 → ∃ t, Ev (fun k => laws_szPNodeS.l0 k l a (n : Int)) t ∧ (0 ≤ t → ∀ y ∈ l.drop n, smallN y) := by
  intro d
  induction d with
  | zero =>
    intro n hn a h0 h1
    refine ⟨a, Ev.later fun k => ?_, fun _ y hy => ?_⟩
    · simp only [laws_szPNodeS.l0]
      rw [if_neg (cast_nlt (by omega))]
    · rw [List.drop_eq_nil_of_le (by omega)] at hy; cases hy
  | succ d ih =>
    intro n hn a h0 h1
    have hn2 : n < l.length := by omega
    have e : rd_T43 l (n : Int) = l[n] := by unfold rd_T43; simp [List.getD_eq_getElem?_getD, hn2]
    obtain ⟨hs1, hs2⟩ := hs l[n] (List.getElem_mem hn2)
    obtain ⟨t, ht, hsm⟩ := szPNode_at l[n] a h0 h1 hs1 hs2
    by_cases c : t < 0
    · refine ⟨-1, Ev.later fun k => ?_, by omega⟩
      simp only [laws_szPNodeS.l0]
      rw [if_pos (cast_lt hn2), if_pos (by omega), e, ht]
      simp only [Option.bind_some, if_pos c]
    · have hsm := hsm (by omega)
      obtain ⟨t2, ht2, hall⟩ := ih (n + 1) (by omega) t (by omega) (by omega)
      refine ⟨t2, Ev.step (fun k => ?_) ht2, fun h y hy => ?_⟩
      · simp only [laws_szPNodeS.l0]
        rw [if_pos (cast_lt hn2), if_pos (by omega), e, ht]
        simp only [Option.bind_some, if_neg c]
        rw [wrap_succ (n := l.length) (by omega) (cast_lt hn2) (by omega)]
        rfl
      · rw [List.drop_eq_getElem_cons hn2] at hy
        rcases List.mem_cons.mp hy with e2 | e2
        · subst e2; exact ⟨hsm.2.1, hsm.2.2⟩
        · exact hall h y e2
theorem szPNodeS_ev (l : List S43) (hl : l.length ≤ 140737488351232) (hs : ∀ y ∈ l, y.f1.size ≤ 140737488351232 ∧ y.f2.length ≤ 140737488351232) : ∃ t, Ev (fun k => laws_szPNodeS.f k l 1048576) t ∧ (0 ≤ t → l.length ≤ 1048576 ∧ ∀ y ∈ l, smallN y) := by
  unfold laws_szPNodeS.f
  rw [w64 (x := 1048576 - (l.length : Int)) (by omega) (by omega)]
  by_cases c : 1048576 - (l.length : Int) < 0
  · refine ⟨-1, ?_, by omega⟩
    simp only [if_pos c]
    exact Ev.now _
  · simp only [if_neg c]
    obtain ⟨t, ht, h⟩ := szPNodeS_l0_ev l hl hs l.length 0 (by omega) (1048576 - (l.length : Int)) (by omega) (by omega)
    exact ⟨t, ht, fun h0 => ⟨by omega, by simpa using h h0⟩⟩
theorem toPNode_ev (x : S43) (h : x.f2.length ≤ 1048576) : Ev (fun k => laws_toPNode.f k x.f0 x.f1 x.f2 x.f3) (x.f0, x.f1, x.f2, x.f3) := by
  unfold laws_toPNode.f
  exact Ev.bind (toInt64S_ev x.f2 (by omega)) (Ev.now _)
theorem toPNodeS_l0_ev (l : List S43) (hl : l.length ≤ 1048576) (hs : ∀ y ∈ l, smallN y) : ∀ (d n : Nat) (r : List S44), n + d = l.length → r.length = d → Ev (fun k => laws_toPNodeS.l0 k l ((l.take n).map cvN ++ r) (n : Int)) (l.map cvN) := by
  intro d
  induction d with
  | zero =>
    intro n r hn hr
    refine Ev.later fun k => ?_
    simp only [laws_toPNodeS.l0]
    rw [if_neg (cast_nlt (by omega))]
    have : r = [] := List.eq_nil_of_length_eq_zero hr
    subst this
    rw [List.append_nil, List.take_of_length_le (by omega)]
  | succ d ih =>
    intro n r hn hr
    have hn2 : n < l.length := by omega
    have e : rd_T43 l (n : Int) = l[n] := by unfold rd_T43; simp [List.getD_eq_getElem?_getD, hn2]
    have hlen : ((l.take n).map cvN ++ r).length = l.length := by rw [List.length_append, List.length_map, List.length_take]; omega
    refine Ev.step (f := fun k => (laws_toPNode.f k l[n].f0 l[n].f1 l[n].f2 l[n].f3).bind fun bt => (laws_toPNodeS.l0 k l (((l.take n).map cvN ++ r).set n (⟨bt.1, bt.2.1, bt.2.2.1, bt.2.2.2⟩ : S44)) ((n + 1 : Nat) : Int))) (fun k => ?_) ?_
    · simp only [laws_toPNodeS.l0]
      rw [if_pos (cast_lt hn2), if_pos (by omega), e, hlen, wrap_succ (n := l.length) (by omega) (cast_lt hn2) (by omega)]
      simp only [if_pos (cast_lt hn2), Int.toNat_natCast]
      rfl
    refine Ev.bind (toPNode_ev _ (hs _ (List.getElem_mem hn2)).2) ?_
    have hsub := ih (n + 1) r.tail (by omega) (by rw [List.length_tail]; omega)
    rw [set_next ((l.take n).map cvN) r n _ z44 (by rw [List.length_map, List.length_take]; omega) (by omega)]
    rw [List.take_succ_eq_append_getElem hn2, List.map_append] at hsub
    exact hsub
theorem toPNodeS_ev (l : List S43) (hl : l.length ≤ 1048576) (hs : ∀ y ∈ l, smallN y) : Ev (fun k => laws_toPNodeS.f k l) (l.map cvN) := by
  unfold laws_toPNodeS.f
  simp only [show ((0 : Int) ≤ (l.length : Int)) = True from eq_true (by omega), if_true, Int.toNat_natCast, show (l.length ≤ 5026338869833) = True from eq_true (by omega)]
  have := toPNodeS_l0_ev l hl hs l.length 0 (List.replicate l.length z44) (by omega) (by simp)
  simpa using this
theorem eqPNodeS_self (l : List S44) (hl : l.length ≤ 1048576) (hs : ∀ y ∈ l, y.f2.length ≤ 1048576) : Ev (fun k => laws_eqPNodeS.f k l l) true := by
  have main : ∀ d n, n + d = l.length → Ev (fun k => laws_eqPNodeS.l0 k l l (n : Int)) true := by
    intro d
    induction d with
    | zero =>
      intro n hn
      refine Ev.later fun k => ?_
      simp only [laws_eqPNodeS.l0]
      rw [if_neg (cast_nlt (by omega))]
    | succ d ih =>
      intro n hn
      have hn2 : n < l.length := by omega
      have e : rd_T44 l (n : Int) = l[n] := by unfold rd_T44; simp [List.getD_eq_getElem?_getD, hn2]
      refine Ev.step (f := fun k => (laws_eqPNode.f k l[n].f0 l[n].f1 l[n].f2 l[n].f3 l[n].f0 l[n].f1 l[n].f2 l[n].f3).bind fun t => (if t = true then (laws_eqPNodeS.l0 k l l ((n + 1 : Nat) : Int)) else (some false))) (fun k => ?_) ?_
      · simp only [laws_eqPNodeS.l0]
        rw [if_pos (cast_lt hn2), if_pos (by omega), if_pos (cast_lt hn2), e, wrap_succ (n := l.length) (by omega) (cast_lt hn2) (by omega)]
        rfl
      refine Ev.bind (a := true) ?_ ?_
      · unfold laws_eqPNode.f
        simp only [if_true]
        refine Ev.bind (eqInt64S_self _ (by have := hs _ (List.getElem_mem hn2); omega)) ?_
        simp only [if_true]
        exact Ev.now _
      · simp only [if_true]
        exact ih (n + 1) (by omega)
  unfold laws_eqPNodeS.f
  simp only [if_true]
  exact main l.length 0 (by omega)
theorem rd_map (l : List S43) (j : Nat) : (rd_T44 (l.map cvN) (j : Int)).f1 = (rd_T43 l (j : Int)).f1 ∧ (rd_T44 (l.map cvN) (j : Int)).f2 = (rd_T43 l (j : Int)).f2 := by
  unfold rd_T44 rd_T43
  simp only [Int.toNat_natCast, List.getD_eq_getElem?_getD, List.getElem?_map]
  cases l[j]? <;> exact ⟨rfl, rfl⟩
theorem rd_small (l : List S43) (hs : ∀ y ∈ l, smallN y) (j : Nat) : (rd_T44 (l.map cvN) (j : Int)).f1.size ≤ 1048576 ∧ (rd_T44 (l.map cvN) (j : Int)).f2.length ≤ 1048576 := by
  rw [(rd_map l j).1, (rd_map l j).2]
  unfold rd_T43
  simp only [Int.toNat_natCast, List.getD_eq_getElem?_getD]
  by_cases h : j < l.length
  · rw [List.getElem?_eq_getElem h]
    exact hs _ (List.getElem_mem h)
  · rw [List.getElem?_eq_none (by omega)]
    exact ⟨by decide, by decide⟩
end Go.Proofs.Ytaliphegdclkfaa.PL
