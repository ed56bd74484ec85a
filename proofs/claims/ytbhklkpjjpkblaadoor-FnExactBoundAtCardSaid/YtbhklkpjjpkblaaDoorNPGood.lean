/- What one item of a document must be by itself: the reference's test and the program's come to the same plain one. -/
import Derived.Test.YtbhklkpjjpkblaaDoorPNx0
import Derived.Test.YtbhklkpjjpkblaaDoorPNx4
import Derived.Test.YtbhklkpjjpkblaaDoorPNx5
import Derived.Test.YtbhklkpjjpkblaaDoorPNx8
import Derived.Test.YtbhklkpjjpkblaaDoorPNx10
import Derived.Test.YtbhklkpjjpkblaaDoorPNx11
import Derived.Test.YtbhklkpjjpkblaaDoorPNx12
import Derived.Test.YtbhklkpjjpkblaaDoorNPBase
import Derived.Test.YtbhklkpjjpkblaaDoorNPIn
import Derived.Test.YtbhklkpjjpkblaaDoorNPTexts
import Derived.Test.YtbhklkpjjpkblaaDoorNPItems
namespace Go.Proofs.YtbhklkpjjpkblaaDoor.PN
open Go.RowKit Go.Proofs.YtbhklkpjjpkblaaDoorW.PrintWords Go.Proofs.YtbhklkpjjpkblaaDoorW.PrintMore
set_option linter.unusedVariables false
set_option linter.unusedSimpArgs false
def smallA (l : List S76) : Prop := l.length ≤ 1048576 ∧ ∀ y ∈ l, y.f0.size ≤ 1048576 ∧ y.f1.size ≤ 1048576
def smallI (x : S74) : Prop := x.f1.size ≤ 1048576 ∧ x.f2.size ≤ 1048576 ∧ smallA x.f3
def neA (a y : S76) : Bool := decide (¬ y.f0.toList = a.f0.toList)
def attrsR (l : List S76) : Nat → Nat → Bool
  | 0, _ => true
  | d + 1, n => (qualB (rd_T76 l (n : Int)).f0 && textB (rd_T76 l (n : Int)).f1) && ((l.take n).all (neA (rd_T76 l (n : Int))) && attrsR l d (n + 1))
def attrsB (l : List S76) : Bool := decide (l.length ≤ 10) && attrsR l l.length 0
theorem spec_Attrs_l1_ev (l : List S76) (hl : l.length ≤ 1048576) (n : Nat) (hn : n < l.length) (r : Bool) (hr : Ev (fun k => spec_l2Attrs.l0 k l ((n + 1 : Nat) : Int)) r) : ∀ d m, m + d = n → Ev (fun k => spec_l2Attrs.l1 k l (n : Int) (m : Int)) (((l.take n).drop m).all (neA (rd_T76 l (n : Int))) && r) := by
  intro d
  induction d with
  | zero =>
    intro m hm
    rw [List.drop_eq_nil_of_le (by rw [List.length_take]; omega)]
    simp only [List.all_nil, Bool.true_and]
    refine Ev.step (fun k => ?_) hr
    simp only [spec_l2Attrs.l1]
    rw [if_neg (cast_nlt (by omega)), wrap_succ (n := l.length) (by omega) (cast_lt hn) (by omega)]
    rfl
  | succ d ih =>
    intro m hm
    have hm2 : m < (l.take n).length := by rw [List.length_take]; omega
    rw [List.drop_eq_getElem_cons hm2, List.all_cons, List.getElem_take]
    have e : rd_T76 l (m : Int) = l[m]'(by omega) := getIA l m (by omega)
    by_cases c : (l[m]'(by omega)).f0.toList = (rd_T76 l (n : Int)).f0.toList
    · rw [show neA (rd_T76 l (n : Int)) (l[m]'(by omega)) = false from by unfold neA; simp [c], Bool.false_and, Bool.false_and]
      refine Ev.later fun k => ?_
      simp only [spec_l2Attrs.l1]
      rw [if_pos (cast_lt (by omega)), if_pos (by omega), if_pos (cast_lt (by omega)), if_pos (by omega), if_pos (cast_lt (by omega)), e, if_pos c]
    · rw [show neA (rd_T76 l (n : Int)) (l[m]'(by omega)) = true from by unfold neA; simp [c], Bool.true_and]
      refine Ev.step (fun k => ?_) (ih (m + 1) (by omega))
      simp only [spec_l2Attrs.l1]
      rw [if_pos (cast_lt (by omega)), if_pos (by omega), if_pos (cast_lt (by omega)), if_pos (by omega), if_pos (cast_lt (by omega)), e, if_neg c, wrap_succ (n := l.length) (by omega) (cast_lt (by omega)) (by omega)]
      rfl
theorem spec_Attrs_l0_ev (l : List S76) (hl : smallA l) : ∀ d n, n + d = l.length → Ev (fun k => spec_l2Attrs.l0 k l (n : Int)) (attrsR l d n) := by
  intro d
  induction d with
  | zero =>
    intro n hn
    refine Ev.later fun k => ?_
    simp only [spec_l2Attrs.l0]
    rw [if_neg (cast_nlt (by omega))]
    rfl
  | succ d ih =>
    intro n hn
    have hn2 : n < l.length := by omega
    have e : rd_T76 l (n : Int) = l[n] := getIA l n hn2
    have hs := hl.2 l[n] (List.getElem_mem _)
    rw [attrsR]
    have hq := spec_l1Qual_ev (rd_T76 l (n : Int)).f0 (by rw [e]; omega)
    have step : ∀ k, spec_l2Attrs.l0 (k + 1) l (n : Int) = (spec_l1Qual.f k ((rd_T76 l (n : Int)).f0)).bind fun t141 => (if t141 = true then ((spec_l1Text.f k ((rd_T76 l (n : Int)).f1)).bind fun t143 => (spec_l2Attrs.j1 k l (n : Int) (!t143))) else (spec_l2Attrs.j1 k l (n : Int) true)) := fun k => by
      simp only [spec_l2Attrs.l0]
      rw [if_pos (cast_lt hn2), if_pos (by omega)]
    have bad : Ev (fun k => spec_l2Attrs.j1 k l (n : Int) true) false := Ev.later fun k => by simp only [spec_l2Attrs.j1, if_true]
    refine Ev.step step (Ev.bind hq ?_)
    cases qualB (rd_T76 l (n : Int)).f0 with
    | false => simp only [Bool.false_eq_true, if_false, Bool.false_and]; exact bad
    | true =>
      simp only [if_true, Bool.true_and]
      refine Ev.bind (spec_l1Text_ev _) ?_
      cases textB (rd_T76 l (n : Int)).f1 with
      | false => simp only [Bool.not_false, Bool.false_and]; exact bad
      | true =>
        simp only [Bool.not_true, Bool.true_and]
        have h := spec_Attrs_l1_ev l hl.1 n hn2 _ (ih (n + 1) (by omega)) n 0 (by omega)
        rw [List.drop_zero] at h
        refine Ev.step (fun k => ?_) h
        simp only [spec_l2Attrs.j1, Bool.false_eq_true, if_false]
        rfl
theorem spec_Attrs_ev (l : List S76) (hl : smallA l) : Ev (fun k => spec_l2Attrs.f k l) (attrsB l) := by
  unfold spec_l2Attrs.f attrsB
  by_cases c : (l.length : Int) > 10
  · simp only [c, if_true]
    rw [decide_eq_false (by omega), Bool.false_and]
    exact Ev.now _
  · simp only [c, if_false]
    rw [decide_eq_true (by omega), Bool.true_and]
    exact spec_Attrs_l0_ev l hl l.length 0 (by omega)
section
variable (u : Int) (v w : ByteArray)
theorem impl_Good_l1_ev (l : List S76) (hl : l.length ≤ 1048576) (n : Nat) (hn : n < l.length) (r : Bool) (hr : Ev (fun k => impl_Item_isGood.l0 k l (l.length : Int) ((n + 1 : Nat) : Int) u v w l) r) : ∀ d m, m + d = n → Ev (fun k => impl_Item_isGood.l1 k l (l.length : Int) (n : Int) (l.take n) ((l.take n).length : Int) (m : Int) u v w l (rd_T76 l (n : Int)).f0 (rd_T76 l (n : Int)).f1) (((l.take n).drop m).all (neA (rd_T76 l (n : Int))) && r) := by
  have ht : (l.take n).length = n := by rw [List.length_take]; omega
  intro d
  induction d with
  | zero =>
    intro m hm
    rw [List.drop_eq_nil_of_le (by omega)]
    simp only [List.all_nil, Bool.true_and]
    refine Ev.step (fun k => ?_) hr
    simp only [impl_Item_isGood.l1]
    rw [if_neg (cast_nlt (by omega)), wrap_succ (n := l.length) (by omega) (cast_lt hn) (by omega)]
    rfl
  | succ d ih =>
    intro m hm
    have hm2 : m < (l.take n).length := by omega
    have e : rd_T76 (l.take n) (m : Int) = (l.take n)[m] := getIA _ m hm2
    rw [List.drop_eq_getElem_cons hm2, List.all_cons]
    by_cases c : (l.take n)[m].f0.toList = (rd_T76 l (n : Int)).f0.toList
    · rw [show neA (rd_T76 l (n : Int)) (l.take n)[m] = false from by unfold neA; simp only [c, not_true, decide_false], Bool.false_and, Bool.false_and]
      refine Ev.later fun k => ?_
      simp only [impl_Item_isGood.l1]
      rw [if_pos (cast_lt hm2), if_pos (by omega), if_pos (cast_lt hm2), e, if_pos c.symm]
    · rw [show neA (rd_T76 l (n : Int)) (l.take n)[m] = true from by unfold neA; exact decide_eq_true c, Bool.true_and]
      refine Ev.step (fun k => ?_) (ih (m + 1) (by omega))
      simp only [impl_Item_isGood.l1]
      rw [if_pos (cast_lt hm2), if_pos (by omega), if_pos (cast_lt hm2), e, if_neg (fun h => c h.symm), wrap_succ (n := (l.take n).length) (by omega) (cast_lt hm2) (by omega)]
      rfl
theorem impl_Good_l0_ev (l : List S76) (hl : smallA l) : ∀ d n, n + d = l.length → Ev (fun k => impl_Item_isGood.l0 k l (l.length : Int) (n : Int) u v w l) (attrsR l d n) := by
  intro d
  induction d with
  | zero =>
    intro n hn
    refine Ev.later fun k => ?_
    simp only [impl_Item_isGood.l0]
    rw [if_neg (cast_nlt (by omega))]
    rfl
  | succ d ih =>
    intro n hn
    have hn2 : n < l.length := by omega
    have e : rd_T76 l (n : Int) = l[n] := getIA l n hn2
    have hs := hl.2 l[n] (List.getElem_mem _)
    rw [attrsR]
    have hq := impl_isQualified_ev (rd_T76 l (n : Int)).f0 (by rw [e]; omega)
    have bad : Ev (fun k => impl_Item_isGood.j2 k (n : Int) l (l.length : Int) (n : Int) true u v w l (rd_T76 l (n : Int)).f0 (rd_T76 l (n : Int)).f1) false := Ev.later fun k => by simp only [impl_Item_isGood.j2, if_true]
    have step : ∀ k, impl_Item_isGood.l0 (k + 1) l (l.length : Int) (n : Int) u v w l = (impl_isQualified.f k ((rd_T76 l (n : Int)).f0)).bind fun t214 => (if t214 = true then ((impl_isPlain.f k ((rd_T76 l (n : Int)).f1)).bind fun t215 => (impl_Item_isGood.j2 k (n : Int) l (l.length : Int) (n : Int) (!t215) u v w l ((rd_T76 l (n : Int)).f0) ((rd_T76 l (n : Int)).f1))) else (impl_Item_isGood.j2 k (n : Int) l (l.length : Int) (n : Int) true u v w l ((rd_T76 l (n : Int)).f0) ((rd_T76 l (n : Int)).f1))) := fun k => by
      simp only [impl_Item_isGood.l0]
      rw [if_pos (cast_lt hn2), if_pos (by omega), if_pos (cast_lt hn2)]
    refine Ev.step step (Ev.bind hq ?_)
    cases qualB (rd_T76 l (n : Int)).f0 with
    | false => simp only [Bool.false_eq_true, if_false, Bool.false_and]; exact bad
    | true =>
      simp only [if_true, Bool.true_and]
      refine Ev.bind (impl_isPlain_ev _) ?_
      cases textB (rd_T76 l (n : Int)).f1 with
      | false => simp only [Bool.not_false, Bool.false_and]; exact bad
      | true =>
        simp only [Bool.not_true, Bool.true_and]
        have h := impl_Good_l1_ev u v w l hl.1 n hn2 _ (ih (n + 1) (by omega)) n 0 (by omega)
        rw [List.drop_zero] at h
        refine Ev.step (fun k => ?_) h
        simp only [impl_Item_isGood.j2, Bool.false_eq_true, if_false]
        rw [if_pos (by omega), if_pos (by omega), Option.bind_some, Int.toNat_natCast]
        rfl
end
def goodI (x : S74) : Bool := if x.f1.toList = [] then (decide (¬ x.f2.toList = []) && (textB x.f2 && decide (x.f3.length = 0))) else (qualB x.f1 && (decide (x.f2.toList = []) && attrsB x.f3))
theorem impl_isGood_ev (x : S74) (hx : smallI x) : Ev (fun k => impl_Item_isGood.f k x.f0 x.f1 x.f2 x.f3) (goodI x) := by
  obtain ⟨h1, h2, h3⟩ := hx
  have hz := h3.1
  unfold impl_Item_isGood.f goodI
  by_cases c : x.f1.toList = []
  · simp only [c, if_true]
    by_cases d : x.f2.toList = []
    · simp only [d, if_true]
      simp only [not_true, decide_false, Bool.false_and]
      exact Ev.now _
    · simp only [d, if_false, not_false_eq_true, decide_true, Bool.true_and]
      refine Ev.bind (impl_isPlain_ev _) ?_
      cases textB x.f2 with
      | false => simp only [Bool.false_eq_true, if_false, Bool.false_and]; exact Ev.now _
      | true =>
        simp only [if_true, Bool.true_and]
        rw [show ((x.f3.length : Int) == 0) = decide (x.f3.length = 0) from by by_cases e : x.f3.length = 0 <;> simp [e]]
        exact Ev.now _
  · simp only [c, if_false]
    have bad : Ev (fun k => impl_Item_isGood.j0 k true x.f0 x.f1 x.f2 x.f3) false := Ev.later fun k => by simp only [impl_Item_isGood.j0, if_true]
    refine Ev.bind (impl_isQualified_ev x.f1 (by omega)) ?_
    cases qualB x.f1 with
    | false => simp only [Bool.false_eq_true, if_false, Bool.false_and]; exact bad
    | true =>
      simp only [if_true, Bool.true_and]
      by_cases d : x.f2.toList = []
      · simp only [d, if_true, decide_true, Bool.true_and]
        unfold attrsB
        by_cases e : x.f3.length ≤ 10
        · rw [decide_eq_true e, Bool.true_and, decide_eq_false (by omega)]
          refine Ev.step (fun k => ?_) (impl_Good_l0_ev x.f0 x.f1 x.f2 x.f3 h3 x.f3.length 0 (by omega))
          simp only [impl_Item_isGood.j0, Bool.false_eq_true, if_false]
          rfl
        · rw [decide_eq_false e, Bool.false_and, decide_eq_true (by omega)]
          exact bad
      · simp only [d, if_false, decide_false, Bool.false_and]
        exact bad
def wB (x : S74) : Nat := x.f1.size + x.f2.size + wAs x.f3
theorem wAs_drop (l : List S76) (n : Nat) (h : n < l.length) : wAs (l.drop n) = wA l[n] + wAs (l.drop (n + 1)) := by rw [List.drop_eq_getElem_cons h, wAs_cons]
theorem impl_bytes_l0_ev (l : List S76) (hl : l.length ≤ 2000000) (hw : wAs l ≤ 2000000) : ∀ d n (s : Int), n + d = l.length → 0 ≤ s → s + wAs (l.drop n) ≤ 10000000 → Ev (fun k => impl_Item_bytes.l0 k s l (l.length : Int) (n : Int)) (s + wAs (l.drop n)) := by
  intro d
  induction d with
  | zero =>
    intro n s hn h0 h1
    refine Ev.later fun k => ?_
    simp only [impl_Item_bytes.l0]
    rw [if_neg (cast_nlt (by omega)), List.drop_eq_nil_of_le (by omega)]
    simp [wAs]
  | succ d ih =>
    intro n s hn h0 h1
    have hn2 : n < l.length := by omega
    have e : rd_T76 l (n : Int) = l[n] := getIA l n hn2
    have ew := wAs_drop l n hn2
    rw [ew] at h1 ⊢
    have hA : wA l[n] = l[n].f0.size + l[n].f1.size := rfl
    have h := ih (n + 1) (s + wA l[n]) (by omega) (by omega) (by omega)
    rw [show s + ((wA l[n] + wAs (l.drop (n + 1)) : Nat) : Int) = s + wA l[n] + wAs (l.drop (n + 1)) by omega]
    refine Ev.step (fun k => ?_) h
    simp only [impl_Item_bytes.l0]
    rw [if_pos (cast_lt hn2), if_pos (by omega), if_pos (cast_lt hn2), e, wrap_succ (n := l.length) (by omega) (cast_lt hn2) (by omega), w64 (x := (l[n].f0.size : Int) + (l[n].f1.size : Int)) (by omega) (by omega), w64 (by omega) (by omega)]
    rw [show s + ((l[n].f0.size : Int) + (l[n].f1.size : Int)) = s + wA l[n] by omega]
    rfl
theorem impl_bytes_ev (x : S74) (hw : wI x ≤ 2000000) : Ev (fun k => impl_Item_bytes.f k x.f0 x.f1 x.f2 x.f3) (wB x : Int) := by
  unfold impl_Item_bytes.f
  have e1 : wI x = x.f1.size + x.f2.size + x.f3.length + wAs x.f3 := rfl
  have e2 : wB x = x.f1.size + x.f2.size + wAs x.f3 := rfl
  rw [w64 (x := (x.f1.size : Int) + (x.f2.size : Int)) (by omega) (by omega)]
  have h := impl_bytes_l0_ev x.f3 (by omega) (by omega) x.f3.length 0 ((x.f1.size : Int) + (x.f2.size : Int)) (by omega) (by omega) (by rw [List.drop_zero]; omega)
  rw [List.drop_zero] at h
  rw [show ((wB x : Nat) : Int) = (x.f1.size : Int) + (x.f2.size : Int) + wAs x.f3 by omega]
  exact h
end Go.Proofs.YtbhklkpjjpkblaaDoor.PN
