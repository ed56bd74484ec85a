/- The laws' own small functions on documents: how much one weighs, the copy, the comparison. -/
import Derived.Test.YtbhklkpjjpkblaaDoorPNx0
import Derived.Test.YtbhklkpjjpkblaaDoorPNx1
import Derived.Test.YtbhklkpjjpkblaaDoorPNx2
import Derived.Test.YtbhklkpjjpkblaaDoorPNx14
import Derived.Test.YtbhklkpjjpkblaaDoorNPBase
import Derived.Test.YtbhklkpjjpkblaaDoorNPIn
namespace Go.Proofs.YtbhklkpjjpkblaaDoor.PN
open Go.RowKit Go.Proofs.YtbhklkpjjpkblaaDoorW.PrintWords Go.Proofs.YtbhklkpjjpkblaaDoorW.PrintMore
set_option linter.unusedVariables false
set_option linter.unusedSimpArgs false
def wA (x : S76) : Nat := x.f0.size + x.f1.size
def wAs (l : List S76) : Nat := (l.map wA).sum
def wI (x : S74) : Nat := x.f1.size + x.f2.size + x.f3.length + wAs x.f3
def wIs (l : List S74) : Nat := (l.map wI).sum
def cvA (x : S141) : S76 := ⟨x.f0, x.f1⟩
def cvI (x : S71) : S74 := ⟨x.f0, x.f1, x.f2, x.f3.map cvA⟩
theorem wAs_cons (x : S76) (l : List S76) : wAs (x :: l) = wA x + wAs l := by simp [wAs]
theorem wIs_cons (x : S74) (l : List S74) : wIs (x :: l) = wI x + wIs l := by simp [wIs]
def okA (x : S141) : Prop := x.f0.size ≤ 140737488351232 ∧ x.f1.size ≤ 140737488351232
def okI (x : S71) : Prop := x.f1.size ≤ 140737488351232 ∧ x.f2.size ≤ 140737488351232 ∧ x.f3.length ≤ 140737488351232 ∧ ∀ y ∈ x.f3, okA y
theorem getLA (l : List S141) (n : Nat) (h : n < l.length) : rd_T141 l (n : Int) = l[n] := by unfold rd_T141; simp [List.getD_eq_getElem?_getD, h]
theorem getLI (l : List S71) (n : Nat) (h : n < l.length) : rd_T71 l (n : Int) = l[n] := by unfold rd_T71; simp [List.getD_eq_getElem?_getD, h]
theorem getIA (l : List S76) (n : Nat) (h : n < l.length) : rd_T76 l (n : Int) = l[n] := by unfold rd_T76; simp [List.getD_eq_getElem?_getD, h]
theorem getII (l : List S74) (n : Nat) (h : n < l.length) : rd_T74 l (n : Int) = l[n] := by unfold rd_T74; simp [List.getD_eq_getElem?_getD, h]
theorem szAttr_at (x : S141) (a : Int) (h0 : 0 ≤ a) (h1 : a ≤ 1048576) (hx : okA x) : ∃ t, laws_szAttr.f x.f0 x.f1 a = some t ∧ (0 ≤ t → t + wA (cvA x) = a) := by
  have hx1 := hx.1
  have hx2 := hx.2
  unfold laws_szAttr.f wA cvA
  rw [w64 (x := a - (x.f0.size : Int)) (by omega) (by omega), w64 (x := a - (x.f0.size : Int) - (x.f1.size : Int)) (by omega) (by omega)]
  by_cases c : a - (x.f0.size : Int) < 0
  · exact ⟨-1, by rw [if_pos c], by omega⟩
  rw [if_neg c]
  by_cases d : a - (x.f0.size : Int) - (x.f1.size : Int) < 0
  · exact ⟨-1, by rw [if_pos d], by omega⟩
  · exact ⟨_, by rw [if_neg d], fun _ => by simp only []; omega⟩
theorem szAttrS_l0 (l : List S141) (hl : l.length ≤ 140737488351232) (hx : ∀ y ∈ l, okA y) : ∀ (d n : Nat) (a : Int), n + d = l.length → 0 ≤ a → a ≤ 1048576 → ∃ t, Ev (fun k => laws_szAttrS.l0 k l a (n : Int)) t ∧ (0 ≤ t → t + wAs ((l.drop n).map cvA) = a) := by
  intro d
  induction d with
  | zero =>
    intro n a hn h0 h1
    refine ⟨a, Ev.later fun k => ?_, fun _ => ?_⟩
    · simp only [laws_szAttrS.l0]
      rw [if_neg (cast_nlt (by omega))]
    · rw [List.drop_eq_nil_of_le (by omega)]
      simp [wAs]
  | succ d ih =>
    intro n a hn h0 h1
    have hn2 : n < l.length := by omega
    obtain ⟨t, ht, hs⟩ := szAttr_at l[n] a h0 h1 (hx _ (List.getElem_mem _))
    by_cases c : t < 0
    · refine ⟨-1, Ev.later fun k => ?_, by omega⟩
      simp only [laws_szAttrS.l0]
      rw [if_pos (cast_lt hn2), if_pos (by omega), getLA _ _ hn2, ht, Option.bind_some, if_pos c]
    · obtain ⟨u, hu, hs2⟩ := ih (n + 1) t (by omega) (by omega) (by have := hs (by omega); omega)
      refine ⟨u, Ev.step (fun k => ?_) hu, fun h => ?_⟩
      · simp only [laws_szAttrS.l0]
        rw [if_pos (cast_lt hn2), if_pos (by omega), getLA _ _ hn2, ht, Option.bind_some, if_neg c, wrap_succ (n := l.length) (by omega) (cast_lt hn2) (by omega)]
        rfl
      · rw [List.drop_eq_getElem_cons hn2, List.map_cons, wAs_cons]
        have := hs (by omega)
        have := hs2 h
        omega
theorem szItem_ev (x : S71) (a : Int) (h0 : 0 ≤ a) (h1 : a ≤ 1048576) (hx : okI x) : ∃ t, Ev (fun k => laws_szItem.f k x.f0 x.f1 x.f2 x.f3 a) t ∧ (0 ≤ t → t + wI (cvI x) = a) := by
  obtain ⟨hx1, hx2, hx3, hx4⟩ := hx
  unfold laws_szItem.f laws_szAttrS.f wI cvI
  rw [w64 (x := a - (x.f1.size : Int)) (by omega) (by omega), w64 (x := a - (x.f1.size : Int) - (x.f2.size : Int)) (by omega) (by omega)]
  by_cases c : a - (x.f1.size : Int) < 0
  · exact ⟨-1, by simp only [c, if_true]; exact Ev.now _, by omega⟩
  simp only [c, if_false]
  by_cases d : a - (x.f1.size : Int) - (x.f2.size : Int) < 0
  · exact ⟨-1, by simp only [d, if_true]; exact Ev.now _, by omega⟩
  simp only [d, if_false]
  rw [w64 (x := a - (x.f1.size : Int) - (x.f2.size : Int) - (x.f3.length : Int)) (by omega) (by omega)]
  by_cases e : a - (x.f1.size : Int) - (x.f2.size : Int) - (x.f3.length : Int) < 0
  · exact ⟨-1, by simp only [e, if_true, Option.bind_some, show ((-1 : Int) < 0) = True from eq_true (by decide)]; exact Ev.now _, by omega⟩
  simp only [e, if_false]
  obtain ⟨t, ht, hs⟩ := szAttrS_l0 x.f3 hx3 hx4 x.f3.length 0 (a - (x.f1.size : Int) - (x.f2.size : Int) - (x.f3.length : Int)) (by omega) (by omega) (by omega)
  by_cases f : t < 0
  · exact ⟨-1, Ev.bind (a := t) ht (by simp only [f, if_true]; exact Ev.now _), by omega⟩
  · refine ⟨t, Ev.bind (a := t) ht (by simp only [f, if_false]; exact Ev.now _), fun h => ?_⟩
    have := hs h
    rw [List.drop_zero] at this
    simp only [List.length_map]
    omega
theorem szItemS_l0 (l : List S71) (hl : l.length ≤ 140737488351232) (hx : ∀ y ∈ l, okI y) : ∀ (d n : Nat) (a : Int), n + d = l.length → 0 ≤ a → a ≤ 1048576 → ∃ t, Ev (fun k => laws_szItemS.l0 k l a (n : Int)) t ∧ (0 ≤ t → t + wIs ((l.drop n).map cvI) = a) := by
  intro d
  induction d with
  | zero =>
    intro n a hn h0 h1
    refine ⟨a, Ev.later fun k => ?_, fun _ => ?_⟩
    · simp only [laws_szItemS.l0]
      rw [if_neg (cast_nlt (by omega))]
    · rw [List.drop_eq_nil_of_le (by omega)]
      simp [wIs]
  | succ d ih =>
    intro n a hn h0 h1
    have hn2 : n < l.length := by omega
    obtain ⟨t, ht, hs⟩ := szItem_ev l[n] a h0 h1 (hx _ (List.getElem_mem _))
    have step : ∀ k, laws_szItemS.l0 (k + 1) l a (n : Int) = (laws_szItem.f k l[n].f0 l[n].f1 l[n].f2 l[n].f3 a).bind fun t107 => (if t107 < 0 then (some (-1)) else (laws_szItemS.l0 k l t107 ((n + 1 : Nat) : Int))) := fun k => by
      simp only [laws_szItemS.l0]
      rw [if_pos (cast_lt hn2), if_pos (by omega), getLI _ _ hn2, wrap_succ (n := l.length) (by omega) (cast_lt hn2) (by omega)]
      rfl
    by_cases c : t < 0
    · refine ⟨-1, Ev.step step (Ev.bind (a := t) ht ?_), by omega⟩
      simp only [c, if_true]
      exact Ev.now _
    · obtain ⟨u, hu, hs2⟩ := ih (n + 1) t (by omega) (by omega) (by have := hs (by omega); omega)
      refine ⟨u, Ev.step step (Ev.bind (a := t) ht ?_), fun h => ?_⟩
      · simp only [c, if_false]
        exact hu
      · rw [List.drop_eq_getElem_cons hn2, List.map_cons, wIs_cons]
        have := hs (by omega)
        have := hs2 h
        omega
theorem szItemS_ev (l : List S71) (hl : l.length ≤ 140737488351232) (hx : ∀ y ∈ l, okI y) : ∃ t, Ev (fun k => laws_szItemS.f k l 1048576) t ∧ (0 ≤ t → l.length + wIs (l.map cvI) ≤ 1048576) := by
  unfold laws_szItemS.f
  rw [w64 (x := 1048576 - (l.length : Int)) (by omega) (by omega)]
  by_cases c : (1048576 : Int) - (l.length : Int) < 0
  · exact ⟨-1, by simp only [c, if_true]; exact Ev.now _, by omega⟩
  · simp only [c, if_false]
    obtain ⟨t, ht, hs⟩ := szItemS_l0 l hl hx l.length 0 (1048576 - (l.length : Int)) (by omega) (by omega) (by omega)
    refine ⟨t, ht, fun h => ?_⟩
    have := hs h
    rw [List.drop_zero] at this
    omega
theorem toAttrS_l0_ev (l : List S141) (hl : l.length ≤ 1048576) : ∀ (d n : Nat) (r : List S76), n + d = l.length → r.length = d → Ev (fun k => laws_toAttrS.l0 k l ((l.take n).map cvA ++ r) (n : Int)) (l.map cvA) := by
  intro d
  induction d with
  | zero =>
    intro n r hn hr
    refine Ev.later fun k => ?_
    simp only [laws_toAttrS.l0]
    rw [if_neg (cast_nlt (by omega))]
    have : r = [] := List.eq_nil_of_length_eq_zero hr
    subst this
    rw [List.append_nil, List.take_of_length_le (by omega)]
  | succ d ih =>
    intro n r hn hr
    have hn2 : n < l.length := by omega
    have hlen : ((l.take n).map cvA ++ r).length = l.length := by rw [List.length_append, List.length_map, List.length_take]; omega
    have hsub := ih (n + 1) r.tail (by omega) (by rw [List.length_tail]; omega)
    rw [List.take_succ_eq_append_getElem hn2, List.map_append] at hsub
    refine Ev.step (fun k => ?_) hsub
    simp only [laws_toAttrS.l0]
    rw [if_pos (cast_lt hn2), if_pos (by omega), getLA _ _ hn2, hlen, wrap_succ (n := l.length) (by omega) (cast_lt hn2) (by omega)]
    simp only [if_pos (cast_lt hn2), Int.toNat_natCast, laws_toAttr.f, Option.bind_some]
    rw [set_next ((l.take n).map cvA) r n _ z76 (by rw [List.length_map, List.length_take]; omega) (by omega)]
    rfl
theorem toAttrS_ev (l : List S141) (hl : l.length ≤ 1048576) : Ev (fun k => laws_toAttrS.f k l) (l.map cvA) := by
  unfold laws_toAttrS.f
  simp only [show ((0 : Int) ≤ (l.length : Int)) = True from eq_true (by omega), if_true, Int.toNat_natCast, show (l.length ≤ 8796093022208) = True from eq_true (by omega)]
  have := toAttrS_l0_ev l hl l.length 0 (List.replicate l.length z76) (by omega) (by simp)
  simpa using this
theorem toItemS_l0_ev (l : List S71) (hl : l.length ≤ 1048576) (ha : ∀ y ∈ l, y.f3.length ≤ 1048576) : ∀ (d n : Nat) (r : List S74), n + d = l.length → r.length = d → Ev (fun k => laws_toItemS.l0 k l ((l.take n).map cvI ++ r) (n : Int)) (l.map cvI) := by
  intro d
  induction d with
  | zero =>
    intro n r hn hr
    refine Ev.later fun k => ?_
    simp only [laws_toItemS.l0]
    rw [if_neg (cast_nlt (by omega))]
    have : r = [] := List.eq_nil_of_length_eq_zero hr
    subst this
    rw [List.append_nil, List.take_of_length_le (by omega)]
  | succ d ih =>
    intro n r hn hr
    have hn2 : n < l.length := by omega
    have hlen : ((l.take n).map cvI ++ r).length = l.length := by rw [List.length_append, List.length_map, List.length_take]; omega
    have hsub := ih (n + 1) r.tail (by omega) (by rw [List.length_tail]; omega)
    rw [List.take_succ_eq_append_getElem hn2, List.map_append] at hsub
    refine Ev.step (f := fun k => (laws_toAttrS.f k l[n].f3).bind fun t => laws_toItemS.l0 k l (((l.take n).map cvI ++ r).set n (⟨l[n].f0, l[n].f1, l[n].f2, t⟩ : S74)) ((n + 1 : Nat) : Int)) (fun k => ?_) (Ev.bind (toAttrS_ev l[n].f3 (ha _ (List.getElem_mem _))) ?_)
    · simp only [laws_toItemS.l0]
      rw [if_pos (cast_lt hn2), if_pos (by omega), getLI _ _ hn2, hlen, wrap_succ (n := l.length) (by omega) (cast_lt hn2) (by omega)]
      simp only [if_pos (cast_lt hn2), Int.toNat_natCast, laws_toItem.f, Option.bind_assoc, Option.bind_some]
      rfl
    · rw [set_next ((l.take n).map cvI) r n _ z74 (by rw [List.length_map, List.length_take]; omega) (by omega)]
      exact hsub
theorem toItemS_ev (l : List S71) (hl : l.length ≤ 1048576) (ha : ∀ y ∈ l, y.f3.length ≤ 1048576) : Ev (fun k => laws_toItemS.f k l) (l.map cvI) := by
  unfold laws_toItemS.f
  simp only [show ((0 : Int) ≤ (l.length : Int)) = True from eq_true (by omega), if_true, Int.toNat_natCast, show (l.length ≤ 4398046511104) = True from eq_true (by omega)]
  have := toItemS_l0_ev l hl ha l.length 0 (List.replicate l.length z74) (by omega) (by simp)
  simpa using this
theorem eqAttrS_self (l : List S76) (hl : l.length ≤ 1048576) : Ev (fun k => laws_eqAttrS.f k l l) true := by
  have main : ∀ d n, n + d = l.length → Ev (fun k => laws_eqAttrS.l0 k l l (n : Int)) true := by
    intro d
    induction d with
    | zero =>
      intro n hn
      refine Ev.later fun k => ?_
      simp only [laws_eqAttrS.l0]
      rw [if_neg (cast_nlt (by omega))]
    | succ d ih =>
      intro n hn
      have hn2 : n < l.length := by omega
      refine Ev.step (fun k => ?_) (ih (n + 1) (by omega))
      simp only [laws_eqAttrS.l0, laws_eqAttr.f]
      rw [if_pos (cast_lt hn2), if_pos (by omega), if_pos (cast_lt hn2), wrap_succ (n := l.length) (by omega) (cast_lt hn2) (by omega)]
      simp
  unfold laws_eqAttrS.f
  simp only [if_true]
  exact main l.length 0 (by omega)
theorem eqItemS_self (l : List S74) (hl : l.length ≤ 1048576) (ha : ∀ y ∈ l, y.f3.length ≤ 1048576) : Ev (fun k => laws_eqItemS.f k l l) true := by
  have main : ∀ d n, n + d = l.length → Ev (fun k => laws_eqItemS.l0 k l l (n : Int)) true := by
    intro d
    induction d with
    | zero =>
      intro n hn
      refine Ev.later fun k => ?_
      simp only [laws_eqItemS.l0]
      rw [if_neg (cast_nlt (by omega))]
    | succ d ih =>
      intro n hn
      have hn2 : n < l.length := by omega
      refine Ev.step (f := fun k => (laws_eqAttrS.f k l[n].f3 l[n].f3).bind fun t => if t = true then laws_eqItemS.l0 k l l ((n + 1 : Nat) : Int) else some false) (fun k => ?_) (Ev.bind (eqAttrS_self l[n].f3 (ha _ (List.getElem_mem _))) ?_)
      · simp only [laws_eqItemS.l0, laws_eqItem.f]
        rw [if_pos (cast_lt hn2), if_pos (by omega), if_pos (cast_lt hn2), getII _ _ hn2, wrap_succ (n := l.length) (by omega) (cast_lt hn2) (by omega)]
        simp only [if_true, Option.bind_assoc]
        congr 1
        funext t
        cases t <;> rfl
      · simp only [if_true]
        exact ih (n + 1) (by omega)
  unfold laws_eqItemS.f
  simp only [if_true]
  exact main l.length 0 (by omega)
/-- What the row says of each item. -/
theorem okI_of {x : S71} (h : WF71 x) : okI x := by
  obtain ⟨_, h1, h2, h3, h4⟩ := h
  exact ⟨h1, h2, by omega, fun y hy => h4 y hy⟩
end Go.Proofs.YtbhklkpjjpkblaaDoor.PN
