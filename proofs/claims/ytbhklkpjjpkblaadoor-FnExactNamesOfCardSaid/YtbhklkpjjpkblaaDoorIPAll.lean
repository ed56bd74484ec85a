import Derived.Test.YtbhklkpjjpkblaaDoorPIx0
import Derived.Test.YtbhklkpjjpkblaaDoorPIx5
import Derived.Test.YtbhklkpjjpkblaaDoorPIx12
import Derived.Test.YtbhklkpjjpkblaaDoorPIx2
import Derived.Test.YtbhklkpjjpkblaaDoorPIx3
import Derived.Test.YtbhklkpjjpkblaaDoorPIx20
import Derived.Test.YtbhklkpjjpkblaaDoorPIx6
import Derived.Lib.ValidU
import Derived.Lib.TrimUEq
import Derived.Lib.MapLaws
import Derived.Test.YtbhklkpjjpkblaaDoorPIx7
import Derived.Test.YtbhklkpjjpkblaaDoorPIx13
import Derived.Test.YtbhklkpjjpkblaaDoorPIx8
import Derived.Test.YtbhklkpjjpkblaaDoorPIx14
import Derived.Test.YtbhklkpjjpkblaaDoorPIx15
import Derived.Test.YtbhklkpjjpkblaaDoorPIx16
import Derived.Test.YtbhklkpjjpkblaaDoorPIx9
import Derived.Test.YtbhklkpjjpkblaaDoorPIx17
import Derived.Lib.Strings
import Derived.Test.YtbhklkpjjpkblaaDoorPIx10
import Derived.Test.YtbhklkpjjpkblaaDoorPIx18
import Derived.Test.YtbhklkpjjpkblaaDoorPIx4
import Derived.Test.YtbhklkpjjpkblaaDoorPIx11
import Derived.Test.YtbhklkpjjpkblaaDoorPIx19
namespace Go.Proofs.YtbhklkpjjpkblaaDoor.PI
open Go.RowKit Go.Proofs.YtbhklkpjjpkblaaDoorW.PrintWords
set_option linter.unusedVariables false
set_option linter.unusedSimpArgs false
/- Small words on numbers, rounds and bytes. -/
theorem w64 {x : Int} (h : -9223372036854775808 ≤ x) (h2 : x ≤ 9223372036854775807) : wrap64 x = x := by
  unfold wrap64
  omega
theorem Ev.later {α : Type} {g : Nat → Option α} {r : α} (h : ∀ k, g (k + 1) = some r) : Ev g r := by
  refine ⟨1, fun k hk => ?_⟩
  obtain ⟨m, rfl⟩ : ∃ m, k = m + 1 := ⟨k - 1, by omega⟩
  exact h m
def inR (a l h : Int) : Bool := decide (l ≤ a ∧ a ≤ h)
theorem wrap_succ {i : Int} {n : Nat} (h0 : 0 ≤ i) (h : i < (n : Int)) (hn : n ≤ 140737488355328) : wrap64 (i + 1) = i + 1 := w64 (by omega) (by omega)
theorem bytes_drop (s : ByteArray) (n : Nat) (h : n < s.size) : (bytesOf s).drop n = bt s (n : Int) :: (bytesOf s).drop (n + 1) := by
  have hl : n < (bytesOf s).length := by rw [bytesOf_length]; exact h
  rw [List.drop_eq_getElem_cons hl]
  congr 1
  have := rd_bytesOf s (n : Int)
  unfold rd at this
  rw [← this]
  simp [List.getD_eq_getElem?_getD, hl]
theorem bytes_drop_end (s : ByteArray) (n : Nat) (h : s.size ≤ n) : (bytesOf s).drop n = [] := List.drop_eq_nil_of_le (by rw [bytesOf_length]; exact h)
theorem cast_lt {a b : Nat} (h : a < b) : (a : Int) < (b : Int) := by omega
theorem cast_nlt {a b : Nat} (h : b ≤ a) : ¬ (a : Int) < (b : Int) := by omega
theorem toList_eq' (s : ByteArray) : s.toList = s.data.toList := ByteArray.toList_eq s
theorem bytes_inj {s t : ByteArray} (h : s.toList = t.toList) : s = t := by
  rw [toList_eq', toList_eq'] at h
  apply ByteArray.ext
  apply Array.ext'
  exact h
theorem list_drop (l : List Int) (n : Nat) (h : n < l.length) : l.drop n = rd l (n : Int) :: l.drop (n + 1) := by
  rw [List.drop_eq_getElem_cons h]
  congr 1
  unfold rd
  simp [List.getD_eq_getElem?_getD, h]
theorem set_next {α : Type} (l r : List α) (n : Nat) (v d : α) (hn : n = l.length) (hr : 0 < r.length) : (l ++ r).set n v = (l ++ [v]) ++ r.tail := by
  subst hn
  cases r with
  | nil => simp at hr
  | cons a r => simp
end Go.Proofs.YtbhklkpjjpkblaaDoor.PI
namespace Go.Proofs.YtbhklkpjjpkblaaDoor.PI
open Go.RowKit Go.Proofs.YtbhklkpjjpkblaaDoorW.PrintWords
set_option linter.unusedVariables false
set_option linter.unusedSimpArgs false
theorem spec_l1In_eq (a l h : Int) : spec_l1In.f a l h = some (inR a l h) := by
  unfold spec_l1In.f inR
  by_cases c : a ≥ l
  · rw [if_pos c]; simp [show l ≤ a from c]
  · rw [if_neg c]; simp [show ¬ l ≤ a from c]
theorem impl_in_eq (a l h : Int) : impl_in.f a l h = some (inR a l h) := by
  unfold impl_in.f inR
  by_cases c : l ≤ a
  · rw [if_pos c]; simp [c]
  · rw [if_neg c]; simp [c]
end Go.Proofs.YtbhklkpjjpkblaaDoor.PI
namespace Go.Proofs.YtbhklkpjjpkblaaDoor.PI
open Go.RowKit Go.Proofs.YtbhklkpjjpkblaaDoorW.PrintWords Go.Proofs.YtbhklkpjjpkblaaDoorW.PrintMore
set_option linter.unusedVariables false
set_option linter.unusedSimpArgs false
def wA (x : S76) : Nat := x.f0.size + x.f1.size
def wAs (l : List S76) : Nat := (l.map wA).sum
def wI (x : S74) : Nat := x.f1.size + x.f2.size + x.f3.length + wAs x.f3
def wIs (l : List S74) : Nat := (l.map wI).sum
def cvA (x : S141) : S76 := ⟨x.f0, x.f1⟩
def cvI (x : S71) : S74 := ⟨x.f0, x.f1, x.f2, x.f3.map cvA⟩
theorem wAs_cons (x : S76) (l : List S76) : wAs (x :: l) = wA x + wAs l := by simp [wAs]
theorem wIs_cons (x : S74) (l : List S74) : wIs (x :: l) = wI x + wIs l := by simp [wIs]
def okA (x : S141) : Prop := x.f0.size ≤ 140737488351232 ∧ x.f1.size ≤ 140737488351232
def okI (x : S71) : Prop := x.f1.size ≤ 140737488351232 ∧ x.f2.size ≤ 140737488351232 ∧ x.f3.length ≤ 140737488351232 ∧ ∀ y ∈ x.f3, okA y
theorem getLA (l : List S141) (n : Nat) (h : n < l.length) : rd_T141 l (n : Int) = l[n] := by unfold rd_T141; simp [List.getD_eq_getElem?_getD, h]
theorem getLI (l : List S71) (n : Nat) (h : n < l.length) : rd_T71 l (n : Int) = l[n] := by unfold rd_T71; simp [List.getD_eq_getElem?_getD, h]
theorem getIA (l : List S76) (n : Nat) (h : n < l.length) : rd_T76 l (n : Int) = l[n] := by unfold rd_T76; simp [List.getD_eq_getElem?_getD, h]
theorem getII (l : List S74) (n : Nat) (h : n < l.length) : rd_T74 l (n : Int) = l[n] := by unfold rd_T74; simp [List.getD_eq_getElem?_getD, h]
theorem szAttr_at (x : S141) (a : Int) (h0 : 0 ≤ a) (h1 : a ≤ 1048576) (hx : okA x) : ∃ t, laws_szAttr.f x.f0 x.f1 a = some t ∧ (0 ≤ t → t + wA (cvA x) = a) := by
  have hx1 := hx.1
  have hx2 := hx.2
  unfold laws_szAttr.f wA cvA
  rw [w64 (x := a - (x.f0.size : Int)) (by omega) (by omega), w64 (x := a - (x.f0.size : Int) - (x.f1.size : Int)) (by omega) (by omega)]
  by_cases c : a - (x.f0.size : Int) < 0
  · exact ⟨-1, by rw [if_pos c], by omega⟩
  rw [if_neg c]
  by_cases d : a - (x.f0.size : Int) - (x.f1.size : Int) < 0
  · exact ⟨-1, by rw [if_pos d], by omega⟩
  · exact ⟨_, by rw [if_neg d], fun _ => by simp only []; omega⟩
theorem szAttrS_l0 (l : List S141) (hl : l.length ≤ 140737488351232) (hx : ∀ y ∈ l, okA y) : ∀ (d n : Nat) (a : Int), n + d = l.length → 0 ≤ a → a ≤ 1048576 → ∃ t, Ev (fun k => laws_szAttrS.l0 k l a (n : Int)) t ∧ (0 ≤ t → t + wAs ((l.drop n).map cvA) = a) := by
  intro d
  induction d with
  | zero =>
    intro n a hn h0 h1
    refine ⟨a, Ev.later fun k => ?_, fun _ => ?_⟩
    · simp only [laws_szAttrS.l0]
      rw [if_neg (cast_nlt (by omega))]
    · rw [List.drop_eq_nil_of_le (by omega)]
      simp [wAs]
  | succ d ih =>
    intro n a hn h0 h1
    have hn2 : n < l.length := by omega
    obtain ⟨t, ht, hs⟩ := szAttr_at l[n] a h0 h1 (hx _ (List.getElem_mem _))
    by_cases c : t < 0
    · refine ⟨-1, Ev.later fun k => ?_, by omega⟩
      simp only [laws_szAttrS.l0]
      rw [if_pos (cast_lt hn2), if_pos (by omega), getLA _ _ hn2, ht, Option.bind_some, if_pos c]
    · obtain ⟨u, hu, hs2⟩ := ih (n + 1) t (by omega) (by omega) (by have := hs (by omega); omega)
      refine ⟨u, Ev.step (fun k => ?_) hu, fun h => ?_⟩
      · simp only [laws_szAttrS.l0]
        rw [if_pos (cast_lt hn2), if_pos (by omega), getLA _ _ hn2, ht, Option.bind_some, if_neg c, wrap_succ (n := l.length) (by omega) (cast_lt hn2) (by omega)]
        rfl
      · rw [List.drop_eq_getElem_cons hn2, List.map_cons, wAs_cons]
        have := hs (by omega)
        have := hs2 h
        omega
theorem szItem_ev (x : S71) (a : Int) (h0 : 0 ≤ a) (h1 : a ≤ 1048576) (hx : okI x) : ∃ t, Ev (fun k => laws_szItem.f k x.f0 x.f1 x.f2 x.f3 a) t ∧ (0 ≤ t → t + wI (cvI x) = a) := by
  obtain ⟨hx1, hx2, hx3, hx4⟩ := hx
  unfold laws_szItem.f laws_szAttrS.f wI cvI
  rw [w64 (x := a - (x.f1.size : Int)) (by omega) (by omega), w64 (x := a - (x.f1.size : Int) - (x.f2.size : Int)) (by omega) (by omega)]
  by_cases c : a - (x.f1.size : Int) < 0
  · exact ⟨-1, by simp only [c, if_true]; exact Ev.now _, by omega⟩
  simp only [c, if_false]
  by_cases d : a - (x.f1.size : Int) - (x.f2.size : Int) < 0
  · exact ⟨-1, by simp only [d, if_true]; exact Ev.now _, by omega⟩
  simp only [d, if_false]
  rw [w64 (x := a - (x.f1.size : Int) - (x.f2.size : Int) - (x.f3.length : Int)) (by omega) (by omega)]
  by_cases e : a - (x.f1.size : Int) - (x.f2.size : Int) - (x.f3.length : Int) < 0
  · exact ⟨-1, by simp only [e, if_true, Option.bind_some, show ((-1 : Int) < 0) = True from eq_true (by decide)]; exact Ev.now _, by omega⟩
  simp only [e, if_false]
  obtain ⟨t, ht, hs⟩ := szAttrS_l0 x.f3 hx3 hx4 x.f3.length 0 (a - (x.f1.size : Int) - (x.f2.size : Int) - (x.f3.length : Int)) (by omega) (by omega) (by omega)
  by_cases f : t < 0
  · exact ⟨-1, Ev.bind (a := t) ht (by simp only [f, if_true]; exact Ev.now _), by omega⟩
  · refine ⟨t, Ev.bind (a := t) ht (by simp only [f, if_false]; exact Ev.now _), fun h => ?_⟩
    have := hs h
    rw [List.drop_zero] at this
    simp only [List.length_map]
    omega
theorem szItemS_l0 (l : List S71) (hl : l.length ≤ 140737488351232) (hx : ∀ y ∈ l, okI y) : ∀ (d n : Nat) (a : Int), n + d = l.length → 0 ≤ a → a ≤ 1048576 → ∃ t, Ev (fun k => laws_szItemS.l0 k l a (n : Int)) t ∧ (0 ≤ t → t + wIs ((l.drop n).map cvI) = a) := by
  intro d
  induction d with
  | zero =>
    intro n a hn h0 h1
    refine ⟨a, Ev.later fun k => ?_, fun _ => ?_⟩
    · simp only [laws_szItemS.l0]
      rw [if_neg (cast_nlt (by omega))]
    · rw [List.drop_eq_nil_of_le (by omega)]
      simp [wIs]
  | succ d ih =>
    intro n a hn h0 h1
    have hn2 : n < l.length := by omega
    obtain ⟨t, ht, hs⟩ := szItem_ev l[n] a h0 h1 (hx _ (List.getElem_mem _))
    have step : ∀ k, laws_szItemS.l0 (k + 1) l a (n : Int) = (laws_szItem.f k l[n].f0 l[n].f1 l[n].f2 l[n].f3 a).bind fun t107 => (if t107 < 0 then (some (-1)) else (laws_szItemS.l0 k l t107 ((n + 1 : Nat) : Int))) := fun k => by
      simp only [laws_szItemS.l0]
      rw [if_pos (cast_lt hn2), if_pos (by omega), getLI _ _ hn2, wrap_succ (n := l.length) (by omega) (cast_lt hn2) (by omega)]
      rfl
    by_cases c : t < 0
    · refine ⟨-1, Ev.step step (Ev.bind (a := t) ht ?_), by omega⟩
      simp only [c, if_true]
      exact Ev.now _
    · obtain ⟨u, hu, hs2⟩ := ih (n + 1) t (by omega) (by omega) (by have := hs (by omega); omega)
      refine ⟨u, Ev.step step (Ev.bind (a := t) ht ?_), fun h => ?_⟩
      · simp only [c, if_false]
        exact hu
      · rw [List.drop_eq_getElem_cons hn2, List.map_cons, wIs_cons]
        have := hs (by omega)
        have := hs2 h
        omega
theorem szItemS_ev (l : List S71) (hl : l.length ≤ 140737488351232) (hx : ∀ y ∈ l, okI y) : ∃ t, Ev (fun k => laws_szItemS.f k l 1048576) t ∧ (0 ≤ t → l.length + wIs (l.map cvI) ≤ 1048576) := by
  unfold laws_szItemS.f
  rw [w64 (x := 1048576 - (l.length : Int)) (by omega) (by omega)]
  by_cases c : (1048576 : Int) - (l.length : Int) < 0
  · exact ⟨-1, by simp only [c, if_true]; exact Ev.now _, by omega⟩
  · simp only [c, if_false]
    obtain ⟨t, ht, hs⟩ := szItemS_l0 l hl hx l.length 0 (1048576 - (l.length : Int)) (by omega) (by omega) (by omega)
    refine ⟨t, ht, fun h => ?_⟩
    have := hs h
    rw [List.drop_zero] at this
    omega
theorem toAttrS_l0_ev (l : List S141) (hl : l.length ≤ 1048576) : ∀ (d n : Nat) (r : List S76), n + d = l.length → r.length = d → Ev (fun k => laws_toAttrS.l0 k l ((l.take n).map cvA ++ r) (n : Int)) (l.map cvA) := by
  intro d
  induction d with
  | zero =>
    intro n r hn hr
    refine Ev.later fun k => ?_
    simp only [laws_toAttrS.l0]
    rw [if_neg (cast_nlt (by omega))]
    have : r = [] := List.eq_nil_of_length_eq_zero hr
    subst this
    rw [List.append_nil, List.take_of_length_le (by omega)]
  | succ d ih =>
    intro n r hn hr
    have hn2 : n < l.length := by omega
    have hlen : ((l.take n).map cvA ++ r).length = l.length := by rw [List.length_append, List.length_map, List.length_take]; omega
    have hsub := ih (n + 1) r.tail (by omega) (by rw [List.length_tail]; omega)
    rw [List.take_succ_eq_append_getElem hn2, List.map_append] at hsub
    refine Ev.step (fun k => ?_) hsub
    simp only [laws_toAttrS.l0]
    rw [if_pos (cast_lt hn2), if_pos (by omega), getLA _ _ hn2, hlen, wrap_succ (n := l.length) (by omega) (cast_lt hn2) (by omega)]
    simp only [if_pos (cast_lt hn2), Int.toNat_natCast, laws_toAttr.f, Option.bind_some]
    rw [set_next ((l.take n).map cvA) r n _ z76 (by rw [List.length_map, List.length_take]; omega) (by omega)]
    rfl
theorem toAttrS_ev (l : List S141) (hl : l.length ≤ 1048576) : Ev (fun k => laws_toAttrS.f k l) (l.map cvA) := by
  unfold laws_toAttrS.f
  simp only [show ((0 : Int) ≤ (l.length : Int)) = True from eq_true (by omega), if_true, Int.toNat_natCast, show (l.length ≤ 8796093022208) = True from eq_true (by omega)]
  have := toAttrS_l0_ev l hl l.length 0 (List.replicate l.length z76) (by omega) (by simp)
  simpa using this
theorem toItemS_l0_ev (l : List S71) (hl : l.length ≤ 1048576) (ha : ∀ y ∈ l, y.f3.length ≤ 1048576) : ∀ (d n : Nat) (r : List S74), n + d = l.length → r.length = d → Ev (fun k => laws_toItemS.l0 k l ((l.take n).map cvI ++ r) (n : Int)) (l.map cvI) := by
  intro d
  induction d with
  | zero =>
    intro n r hn hr
    refine Ev.later fun k => ?_
    simp only [laws_toItemS.l0]
    rw [if_neg (cast_nlt (by omega))]
    have : r = [] := List.eq_nil_of_length_eq_zero hr
    subst this
    rw [List.append_nil, List.take_of_length_le (by omega)]
  | succ d ih =>
    intro n r hn hr
    have hn2 : n < l.length := by omega
    have hlen : ((l.take n).map cvI ++ r).length = l.length := by rw [List.length_append, List.length_map, List.length_take]; omega
    have hsub := ih (n + 1) r.tail (by omega) (by rw [List.length_tail]; omega)
    rw [List.take_succ_eq_append_getElem hn2, List.map_append] at hsub
    refine Ev.step (f := fun k => (laws_toAttrS.f k l[n].f3).bind fun t => laws_toItemS.l0 k l (((l.take n).map cvI ++ r).set n (⟨l[n].f0, l[n].f1, l[n].f2, t⟩ : S74)) ((n + 1 : Nat) : Int)) (fun k => ?_) (Ev.bind (toAttrS_ev l[n].f3 (ha _ (List.getElem_mem _))) ?_)
    · simp only [laws_toItemS.l0]
      rw [if_pos (cast_lt hn2), if_pos (by omega), getLI _ _ hn2, hlen, wrap_succ (n := l.length) (by omega) (cast_lt hn2) (by omega)]
      simp only [if_pos (cast_lt hn2), Int.toNat_natCast, laws_toItem.f, Option.bind_assoc, Option.bind_some]
      rfl
    · rw [set_next ((l.take n).map cvI) r n _ z74 (by rw [List.length_map, List.length_take]; omega) (by omega)]
      exact hsub
theorem toItemS_ev (l : List S71) (hl : l.length ≤ 1048576) (ha : ∀ y ∈ l, y.f3.length ≤ 1048576) : Ev (fun k => laws_toItemS.f k l) (l.map cvI) := by
  unfold laws_toItemS.f
  simp only [show ((0 : Int) ≤ (l.length : Int)) = True from eq_true (by omega), if_true, Int.toNat_natCast, show (l.length ≤ 4398046511104) = True from eq_true (by omega)]
  have := toItemS_l0_ev l hl ha l.length 0 (List.replicate l.length z74) (by omega) (by simp)
  simpa using this
theorem eqAttrS_self (l : List S76) (hl : l.length ≤ 1048576) : Ev (fun k => laws_eqAttrS.f k l l) true := by
  have main : ∀ d n, n + d = l.length → Ev (fun k => laws_eqAttrS.l0 k l l (n : Int)) true := by
    intro d
    induction d with
    | zero =>
      intro n hn
      refine Ev.later fun k => ?_
      simp only [laws_eqAttrS.l0]
      rw [if_neg (cast_nlt (by omega))]
    | succ d ih =>
      intro n hn
      have hn2 : n < l.length := by omega
      refine Ev.step (fun k => ?_) (ih (n + 1) (by omega))
      simp only [laws_eqAttrS.l0, laws_eqAttr.f]
      rw [if_pos (cast_lt hn2), if_pos (by omega), if_pos (cast_lt hn2), wrap_succ (n := l.length) (by omega) (cast_lt hn2) (by omega)]
      simp
  unfold laws_eqAttrS.f
  simp only [if_true]
  exact main l.length 0 (by omega)
theorem eqItemS_self (l : List S74) (hl : l.length ≤ 1048576) (ha : ∀ y ∈ l, y.f3.length ≤ 1048576) : Ev (fun k => laws_eqItemS.f k l l) true := by
  have main : ∀ d n, n + d = l.length → Ev (fun k => laws_eqItemS.l0 k l l (n : Int)) true := by
    intro d
    induction d with
    | zero =>
      intro n hn
      refine Ev.later fun k => ?_
      simp only [laws_eqItemS.l0]
      rw [if_neg (cast_nlt (by omega))]
    | succ d ih =>
      intro n hn
      have hn2 : n < l.length := by omega
      refine Ev.step (f := fun k => (laws_eqAttrS.f k l[n].f3 l[n].f3).bind fun t => if t = true then laws_eqItemS.l0 k l l ((n + 1 : Nat) : Int) else some false) (fun k => ?_) (Ev.bind (eqAttrS_self l[n].f3 (ha _ (List.getElem_mem _))) ?_)
      · simp only [laws_eqItemS.l0, laws_eqItem.f]
        rw [if_pos (cast_lt hn2), if_pos (by omega), if_pos (cast_lt hn2), getII _ _ hn2, wrap_succ (n := l.length) (by omega) (cast_lt hn2) (by omega)]
        simp only [if_true, Option.bind_assoc]
        congr 1
        funext t
        cases t <;> rfl
      · simp only [if_true]
        exact ih (n + 1) (by omega)
  unfold laws_eqItemS.f
  simp only [if_true]
  exact main l.length 0 (by omega)
theorem okI_of {x : S71} (h : WF71 x) : okI x := by
  obtain ⟨_, h1, h2, h3, h4⟩ := h
  exact ⟨h1, h2, by omega, fun y hy => h4 y hy⟩
end Go.Proofs.YtbhklkpjjpkblaaDoor.PI
namespace Go.Proofs.YtbhklkpjjpkblaaDoor.PI
open Go.RowKit Go.Proofs.YtbhklkpjjpkblaaDoorW.PrintWords
set_option linter.unusedVariables false
set_option linter.unusedSimpArgs false
theorem l1Char_at (r : Int) : spec_l1Char.f r = some (decide ((0 ≤ r ∧ r ≤ 55295) ∨ (57344 ≤ r ∧ r ≤ 1114111))) := by
  unfold spec_l1Char.f
  simp only [spec_l1In_eq, Option.bind_some, inR]
  by_cases c : 0 ≤ r ∧ r ≤ 55295
  · rw [decide_eq_true c, if_pos rfl, decide_eq_true (Or.inl c)]
  · rw [decide_eq_false c, if_neg (by decide)]
    congr 1
    by_cases d : 57344 ≤ r ∧ r ≤ 1114111
    · rw [decide_eq_true d, decide_eq_true (Or.inr d)]
    · rw [decide_eq_false d, decide_eq_false (fun h => h.elim c d)]
theorem l1_step (k : Nat) (t : ByteArray) (x4 x5 x6 i : Int) (hi : i < x5) (h0 : 0 ≤ i) (hs : i < t.size) (hc : 128 ≤ bt t i ∧ bt t i < 192) (hx : 0 ≤ x4 ∧ x4 ≤ 100000000) (h5 : x5 ≤ 4) : spec_l1Rune.l0 (k + 1) t x4 x5 x6 i = spec_l1Rune.l0 k t (64 * x4 + bt t i % 64) x5 x6 (i + 1) := by
  simp only [spec_l1Rune.l0]
  rw [if_pos hi, if_pos h0, if_pos hs, if_neg (by omega), if_neg (by omega), Int.tmod_eq_emod_of_nonneg (by omega), w64 (x := 64 * x4) (by omega) (by omega), w64 (x := bt t i % 64) (by omega) (by omega), w64 (x := 64 * x4 + bt t i % 64) (by omega) (by omega), w64 (x := i + 1) (by omega) (by omega)]
theorem l1_bad (k : Nat) (t : ByteArray) (x4 x5 x6 i : Int) (hi : i < x5) (h0 : 0 ≤ i) (hs : i < t.size) (hc : ¬ (128 ≤ bt t i ∧ bt t i < 192)) : spec_l1Rune.l0 (k + 1) t x4 x5 x6 i = some (0, 0) := by
  simp only [spec_l1Rune.l0]
  rw [if_pos hi, if_pos h0, if_pos hs]
  by_cases c : bt t i < 128
  · rw [if_pos c]
  · rw [if_neg c, if_pos (by omega)]
theorem l1_end (k : Nat) (t : ByteArray) (x4 x5 x6 i : Int) (hi : ¬ i < x5) : spec_l1Rune.l0 (k + 1) t x4 x5 x6 i = some (if ¬ x4 < x6 ∧ ((0 ≤ x4 ∧ x4 ≤ 55295) ∨ (57344 ≤ x4 ∧ x4 ≤ 1114111)) then (x4, x5) else (0, 0)) := by
  simp only [spec_l1Rune.l0]
  rw [if_neg hi]
  by_cases c : x4 < x6
  · rw [if_pos c, if_neg (fun h => h.1 c)]
  · rw [if_neg c, l1Char_at, Option.bind_some]
    by_cases d : (0 ≤ x4 ∧ x4 ≤ 55295) ∨ (57344 ≤ x4 ∧ x4 ≤ 1114111)
    · rw [decide_eq_true d, if_pos rfl, if_pos ⟨c, d⟩]
    · rw [decide_eq_false d, if_neg (by decide), if_neg (fun h => d h.2)]
theorem decN2 {n b0 b1 b2 b3 : Nat} (h : 192 ≤ b0 ∧ b0 < 224) : Lib.decodeN n b0 b1 b2 b3 = if (1 < n ∧ b1 / 64 = 2) ∧ b0 % 32 * 64 + b1 % 64 ≥ 128 then (b0 % 32 * 64 + b1 % 64, 2) else (65533, 1) := by
  unfold Lib.decodeN
  rw [if_neg (by omega)]
  by_cases c : 1 < n ∧ b1 / 64 = 2
  · rw [if_pos ⟨by omega, c⟩]
    by_cases d : b0 % 32 * 64 + b1 % 64 ≥ 128
    · rw [if_pos d, if_pos ⟨c, d⟩]
    · rw [if_neg d, if_neg (fun h => d h.2)]
  · rw [if_neg (fun x => c x.2), if_neg (fun x => by have := x.1; omega), if_neg (fun x => by have := x.1; omega), if_neg (fun x => c x.1)]
theorem decN3 {n b0 b1 b2 b3 : Nat} (h : 224 ≤ b0 ∧ b0 < 240) : Lib.decodeN n b0 b1 b2 b3 = if ((1 < n ∧ b1 / 64 = 2) ∧ (2 < n ∧ b2 / 64 = 2)) ∧ (b0 % 16 * 4096 + b1 % 64 * 64 + b2 % 64 ≥ 2048 ∧ (b0 % 16 * 4096 + b1 % 64 * 64 + b2 % 64 < 55296 ∨ (57344 ≤ b0 % 16 * 4096 + b1 % 64 * 64 + b2 % 64 ∧ b0 % 16 * 4096 + b1 % 64 * 64 + b2 % 64 ≤ 1114111))) then (b0 % 16 * 4096 + b1 % 64 * 64 + b2 % 64, 3) else (65533, 1) := by
  unfold Lib.decodeN
  rw [if_neg (by omega), if_neg (fun x => by have := x.1; omega)]
  by_cases c : (1 < n ∧ b1 / 64 = 2) ∧ (2 < n ∧ b2 / 64 = 2)
  · rw [if_pos ⟨by omega, c⟩]
    by_cases d : b0 % 16 * 4096 + b1 % 64 * 64 + b2 % 64 ≥ 2048 ∧ (b0 % 16 * 4096 + b1 % 64 * 64 + b2 % 64 < 55296 ∨ (57344 ≤ b0 % 16 * 4096 + b1 % 64 * 64 + b2 % 64 ∧ b0 % 16 * 4096 + b1 % 64 * 64 + b2 % 64 ≤ 1114111))
    · rw [if_pos d, if_pos ⟨c, d⟩]
    · rw [if_neg d, if_neg (fun h => d h.2)]
  · rw [if_neg (fun x => c x.2), if_neg (fun x => by have := x.1; omega), if_neg (fun x => c x.1)]
theorem decN4 {n b0 b1 b2 b3 : Nat} (h : 240 ≤ b0 ∧ b0 < 248) : Lib.decodeN n b0 b1 b2 b3 = if ((1 < n ∧ b1 / 64 = 2) ∧ (2 < n ∧ b2 / 64 = 2) ∧ (3 < n ∧ b3 / 64 = 2)) ∧ (b0 % 8 * 262144 + b1 % 64 * 4096 + b2 % 64 * 64 + b3 % 64 ≥ 65536 ∧ (b0 % 8 * 262144 + b1 % 64 * 4096 + b2 % 64 * 64 + b3 % 64 < 55296 ∨ (57344 ≤ b0 % 8 * 262144 + b1 % 64 * 4096 + b2 % 64 * 64 + b3 % 64 ∧ b0 % 8 * 262144 + b1 % 64 * 4096 + b2 % 64 * 64 + b3 % 64 ≤ 1114111))) then (b0 % 8 * 262144 + b1 % 64 * 4096 + b2 % 64 * 64 + b3 % 64, 4) else (65533, 1) := by
  unfold Lib.decodeN
  rw [if_neg (by omega), if_neg (fun x => by have := x.1; omega), if_neg (fun x => by have := x.1; omega)]
  by_cases c : (1 < n ∧ b1 / 64 = 2) ∧ (2 < n ∧ b2 / 64 = 2) ∧ (3 < n ∧ b3 / 64 = 2)
  · rw [if_pos ⟨by omega, c⟩]
    by_cases d : b0 % 8 * 262144 + b1 % 64 * 4096 + b2 % 64 * 64 + b3 % 64 ≥ 65536 ∧ (b0 % 8 * 262144 + b1 % 64 * 4096 + b2 % 64 * 64 + b3 % 64 < 55296 ∨ (57344 ≤ b0 % 8 * 262144 + b1 % 64 * 4096 + b2 % 64 * 64 + b3 % 64 ∧ b0 % 8 * 262144 + b1 % 64 * 4096 + b2 % 64 * 64 + b3 % 64 ≤ 1114111))
    · rw [if_pos d, if_pos ⟨c, d⟩]
    · rw [if_neg d, if_neg (fun h => d h.2)]
  · rw [if_neg (fun x => c x.2), if_neg (fun x => c x.1)]
theorem decN0 {n b0 b1 b2 b3 : Nat} (h1 : 128 ≤ b0) (h2 : b0 < 192 ∨ 248 ≤ b0) (h3 : b0 < 256) : Lib.decodeN n b0 b1 b2 b3 = (65533, 1) := by
  unfold Lib.decodeN
  rw [if_neg (by omega), if_neg (fun x => by have := x.1; omega), if_neg (fun x => by have := x.1; omega), if_neg (fun x => by have := x.1; omega)]
def outR (p : Nat × Nat) : Int × Int := if p.1 = 65533 ∧ p.2 = 1 then (0, 0) else ((p.1 : Int), (p.2 : Int))
theorem outR_bad : outR (65533, 1) = (0, 0) := by simp [outR]
theorem outR_ne {a b : Nat} (h : b ≠ 1) : outR (a, b) = ((a : Int), (b : Int)) := by simp [outR, h]
theorem l1Rune_num (t : ByteArray) (n b0 b1 b2 b3 : Nat) (hn : t.size = n) (h0 : 0 < n) (e0 : bt t 0 = b0) (e1 : bt t 1 = b1) (e2 : bt t 2 = b2) (e3 : bt t 3 = b3) (g0 : b0 < 256) (g1 : b1 < 256) (g2 : b2 < 256) (g3 : b3 < 256) (k : Nat) :
    spec_l1Rune.f (k + 8) t = some (outR (Lib.decodeN n b0 b1 b2 b3)) := by
  have hne : ¬ t.toList = ([] : List UInt8) := by
    intro e
    rw [toList_eq'] at e
    have := congrArg List.length e
    rw [data_length, List.length_nil] at this
    omega
  unfold spec_l1Rune.f
  rw [if_neg hne, if_pos (by omega), e0, w64 (x := (b0 : Int)) (by omega) (by omega)]
  by_cases c1 : b0 < 128
  · rw [if_pos (by omega)]
    unfold Lib.decodeN
    rw [if_pos c1]
    simp [outR, show b0 ≠ 65533 by omega]
  rw [if_neg (by omega)]
  by_cases c2 : 192 ≤ b0
  · rw [if_pos (by omega)]
    by_cases c3 : b0 < 224
    · rw [decide_eq_true (by omega), decN2 ⟨c2, c3⟩]
      rw [spec_l1Rune.j0, if_pos rfl, spec_l1Rune.j2, Int.tmod_eq_emod_of_nonneg (by omega)]
      by_cases d : 1 < n
      · rw [if_neg (by omega)]
        by_cases f : b1 / 64 = 2
        · rw [l1_step _ t _ _ _ 1 (by omega) (by omega) (by omega) (by omega) (by omega) (by omega), l1_end _ t _ _ _ _ (by omega), e1]
          by_cases g : b0 % 32 * 64 + b1 % 64 ≥ 128
          · rw [if_pos (by omega), if_pos ⟨⟨d, f⟩, g⟩, outR_ne (by decide)]
            congr 2
            omega
          · rw [if_neg (by omega), if_neg (fun h => g h.2), outR_bad]
        · rw [l1_bad _ t _ _ _ 1 (by omega) (by omega) (by omega) (by omega), if_neg (fun h => f h.1.2), outR_bad]
      · rw [if_pos (by omega), if_neg (fun h => d h.1.1), outR_bad]
    rw [decide_eq_false (by omega)]
    rw [spec_l1Rune.j0, if_neg (by decide), if_pos (by omega)]
    by_cases c4 : b0 < 240
    · rw [decide_eq_true (by omega), decN3 ⟨by omega, c4⟩]
      rw [spec_l1Rune.j1, if_pos rfl, spec_l1Rune.j2, Int.tmod_eq_emod_of_nonneg (by omega)]
      by_cases d : 2 < n
      · rw [if_neg (by omega)]
        by_cases f : b1 / 64 = 2
        · rw [l1_step _ t _ _ _ 1 (by omega) (by omega) (by omega) (by omega) (by omega) (by omega)]
          simp only [Int.reduceAdd]
          by_cases f2 : b2 / 64 = 2
          · rw [l1_step _ t _ _ _ 2 (by omega) (by omega) (by omega) (by omega) (by omega) (by omega), l1_end _ t _ _ _ _ (by omega), e1, e2]
            by_cases g : b0 % 16 * 4096 + b1 % 64 * 64 + b2 % 64 ≥ 2048 ∧ (b0 % 16 * 4096 + b1 % 64 * 64 + b2 % 64 < 55296 ∨ (57344 ≤ b0 % 16 * 4096 + b1 % 64 * 64 + b2 % 64 ∧ b0 % 16 * 4096 + b1 % 64 * 64 + b2 % 64 ≤ 1114111))
            · rw [if_pos (by omega), if_pos ⟨⟨⟨by omega, f⟩, d, f2⟩, g⟩, outR_ne (by decide)]
              congr 2
              omega
            · rw [if_neg (by omega), if_neg (fun h => g h.2), outR_bad]
          · rw [l1_bad _ t _ _ _ 2 (by omega) (by omega) (by omega) (by omega), if_neg (fun h => f2 h.1.2.2), outR_bad]
        · rw [l1_bad _ t _ _ _ 1 (by omega) (by omega) (by omega) (by omega), if_neg (fun h => f h.1.1.2), outR_bad]
      · rw [if_pos (by omega), if_neg (fun h => d h.1.2.1), outR_bad]
    rw [decide_eq_false (by omega)]
    rw [spec_l1Rune.j1, if_neg (by decide), if_pos (by omega)]
    by_cases c5 : b0 < 248
    · rw [if_pos (by omega), decN4 ⟨by omega, c5⟩]
      rw [spec_l1Rune.j2, Int.tmod_eq_emod_of_nonneg (by omega)]
      by_cases d : 3 < n
      · rw [if_neg (by omega)]
        by_cases f : b1 / 64 = 2
        · rw [l1_step _ t _ _ _ 1 (by omega) (by omega) (by omega) (by omega) (by omega) (by omega)]
          simp only [Int.reduceAdd]
          by_cases f2 : b2 / 64 = 2
          · rw [l1_step _ t _ _ _ 2 (by omega) (by omega) (by omega) (by omega) (by omega) (by omega)]
            simp only [Int.reduceAdd]
            by_cases f3 : b3 / 64 = 2
            · rw [l1_step _ t _ _ _ 3 (by omega) (by omega) (by omega) (by omega) (by omega) (by omega), l1_end _ t _ _ _ _ (by omega), e1, e2, e3]
              by_cases g : b0 % 8 * 262144 + b1 % 64 * 4096 + b2 % 64 * 64 + b3 % 64 ≥ 65536 ∧ (b0 % 8 * 262144 + b1 % 64 * 4096 + b2 % 64 * 64 + b3 % 64 < 55296 ∨ (57344 ≤ b0 % 8 * 262144 + b1 % 64 * 4096 + b2 % 64 * 64 + b3 % 64 ∧ b0 % 8 * 262144 + b1 % 64 * 4096 + b2 % 64 * 64 + b3 % 64 ≤ 1114111))
              · rw [if_pos (by omega), if_pos ⟨⟨⟨by omega, f⟩, ⟨by omega, f2⟩, d, f3⟩, g⟩, outR_ne (by decide)]
                congr 2
                omega
              · rw [if_neg (by omega), if_neg (fun h => g h.2), outR_bad]
            · rw [l1_bad _ t _ _ _ 3 (by omega) (by omega) (by omega) (by omega), if_neg (fun h => f3 h.1.2.2.2), outR_bad]
          · rw [l1_bad _ t _ _ _ 2 (by omega) (by omega) (by omega) (by omega), if_neg (fun h => f2 h.1.2.1.2), outR_bad]
        · rw [l1_bad _ t _ _ _ 1 (by omega) (by omega) (by omega) (by omega), if_neg (fun h => f h.1.1.2), outR_bad]
      · rw [if_pos (by omega), if_neg (fun h => d h.1.2.2.1), outR_bad]
    · rw [if_neg (by omega), decN0 (by omega) (by omega) g0, outR_bad]
  · rw [if_neg (by omega), decN0 (by omega) (by omega) g0, outR_bad]
    rw [spec_l1Rune.j0, if_neg (by decide), if_neg (by omega), spec_l1Rune.j1, if_neg (by decide), if_neg (by omega)]
theorem bt_getD (t : ByteArray) (i : Nat) : bt t (i : Int) = ((t.data.toList.getD i 0).toNat : Int) := by
  rw [← rd_bytesOf]
  unfold rd bytesOf
  simp only [Int.toNat_natCast, List.getD_eq_getElem?_getD, List.getElem?_map]
  cases t.data.toList[i]? <;> rfl
theorem l1Rune_ev (t : ByteArray) (h : t.data.toList ≠ []) : Ev (fun k => spec_l1Rune.f k t) (outR (Lib.decodeL t.data.toList)) := by
  refine ⟨8, fun k hk => ?_⟩
  obtain ⟨m, rfl⟩ : ∃ m, k = m + 8 := ⟨k - 8, by omega⟩
  rw [Lib.decodeL_N]
  have hl := List.length_pos_iff.2 h
  exact l1Rune_num t _ _ _ _ _ (by rw [data_length]) hl (bt_getD t 0) (bt_getD t 1) (bt_getD t 2) (bt_getD t 3) (UInt8.toNat_lt _) (UInt8.toNat_lt _) (UInt8.toNat_lt _) (UInt8.toNat_lt _) m
theorem drop_extract (t : ByteArray) (n : Nat) : (t.extract n t.size).data.toList = t.data.toList.drop n := by
  rw [Lib.extract_data, List.take_of_length_le]
  rw [List.length_drop, data_length]
  omega
def runesR (l : List UInt8) (acc : List Int) : List Int × Bool := if Lib.validGoD l.length l = true then (acc ++ impl_Runes.from l.length l, true) else ([], false)
theorem valid_fuel : ∀ (n : Nat) (l : List UInt8) (m : Nat), l.length ≤ n → l.length ≤ m → Lib.validGoD n l = Lib.validGoD m l ∧ impl_Runes.from n l = impl_Runes.from m l := by
  intro n
  induction n with
  | zero =>
    intro l m hn hm
    obtain rfl : l = [] := List.length_eq_zero_iff.1 (by omega)
    cases m <;> simp [Lib.validGoD, impl_Runes.from]
  | succ n ih =>
    intro l m hn hm
    cases m with
    | zero =>
      obtain rfl : l = [] := List.length_eq_zero_iff.1 (by omega)
      simp [Lib.validGoD, impl_Runes.from]
    | succ m =>
      by_cases e : l = []
      · subst e
        simp [Lib.validGoD, impl_Runes.from]
      · have hw := Lib.decodeL_width l
        have hl := List.length_pos_iff.2 e
        have h := ih (l.drop (Lib.decodeL l).2) m (by rw [List.length_drop]; omega) (by rw [List.length_drop]; omega)
        simp only [Lib.validGoD, impl_Runes.from, if_neg e, h.1, h.2, and_self]
theorem spec_Runes_l0_ev : ∀ (n : Nat) (t : ByteArray) (acc : List Int), t.size ≤ n → acc.length + t.size ≤ 100000 → Ev (fun k => spec_Runes.l0 k t acc) (runesR t.data.toList acc) := by
  intro n
  induction n with
  | zero =>
    intro t acc hn hl
    have e : t.data.toList = [] := List.length_eq_zero_iff.1 (by rw [data_length]; omega)
    refine Ev.later fun k => ?_
    simp only [spec_Runes.l0]
    rw [if_pos (by rw [toList_eq']; exact e), e]
    simp [runesR, Lib.validGoD, impl_Runes.from]
  | succ n ih =>
    intro t acc hn hl
    by_cases e : t.data.toList = []
    · refine Ev.later fun k => ?_
      simp only [spec_Runes.l0]
      rw [if_pos (by rw [toList_eq']; exact e), e]
      simp [runesR, Lib.validGoD, impl_Runes.from]
    · have hsz : 0 < t.size := by
        have := List.length_pos_iff.2 e
        rw [data_length] at this
        exact this
      have hw := Lib.decodeL_width t.data.toList
      have hle := Lib.decodeL_le t.data.toList e
      rw [data_length] at hle
      refine Ev.step (f := fun k => (spec_l1Rune.f k t).bind fun bt107 => (if bt107.2 = 0 then (some (([] : List Int), false)) else (if acc.length < 17592186044416 then (if 0 ≤ bt107.2 then (if bt107.2 ≤ (t.size : Int) then (spec_Runes.l0 k (t.extract (bt107.2 : Int).toNat t.size) (acc ++ [bt107.1])) else (none)) else (none)) else (none)))) (fun k => by simp only [spec_Runes.l0]; rw [if_neg (by rw [toList_eq']; exact e)]) ?_
      refine Ev.bind (l1Rune_ev t e) ?_
      obtain ⟨m, hm⟩ : ∃ m, t.data.toList.length = m + 1 := ⟨t.data.toList.length - 1, by rw [data_length]; omega⟩
      by_cases c : (Lib.decodeL t.data.toList).1 = 65533 ∧ (Lib.decodeL t.data.toList).2 = 1
      · have e1 : outR (Lib.decodeL t.data.toList) = (0, 0) := by unfold outR; rw [if_pos c]
        have e2 : runesR t.data.toList acc = ([], false) := by
          unfold runesR
          rw [hm, Lib.validGoD, if_neg e, if_pos c]
          rfl
        rw [e1, e2]
        simp only [if_true]
        exact Ev.now _
      · have e1 : outR (Lib.decodeL t.data.toList) = (((Lib.decodeL t.data.toList).1 : Int), ((Lib.decodeL t.data.toList).2 : Int)) := by unfold outR; rw [if_neg c]
        rw [e1]
        have q1 : ¬ ((Lib.decodeL t.data.toList).2 : Int) = 0 := by omega
        have q2 : acc.length < 17592186044416 := by omega
        have q3 : 0 ≤ ((Lib.decodeL t.data.toList).2 : Int) := by omega
        have q4 : ((Lib.decodeL t.data.toList).2 : Int) ≤ (t.size : Int) := by omega
        simp only [q1, q2, q3, q4, if_true, if_false, Int.toNat_natCast]
        have hz : (t.extract (Lib.decodeL t.data.toList).2 t.size).size = t.size - (Lib.decodeL t.data.toList).2 := by rw [ByteArray.size_extract]; omega
        have h := ih (t.extract (Lib.decodeL t.data.toList).2 t.size) (acc ++ [((Lib.decodeL t.data.toList).1 : Int)]) (by omega) (by rw [List.length_append]; simp only [List.length_cons, List.length_nil]; omega)
        have e2 : runesR t.data.toList acc = runesR (t.extract (Lib.decodeL t.data.toList).2 t.size).data.toList (acc ++ [((Lib.decodeL t.data.toList).1 : Int)]) := by
          rw [drop_extract]
          have hlen : (t.data.toList.drop (Lib.decodeL t.data.toList).2).length ≤ m := by rw [List.length_drop]; omega
          have hf := valid_fuel m (t.data.toList.drop (Lib.decodeL t.data.toList).2) _ hlen (Nat.le_refl _)
          unfold runesR
          rw [← hf.1, ← hf.2, hm]
          simp only [Lib.validGoD, impl_Runes.from, if_neg e, if_neg c, List.append_assoc, List.cons_append, List.nil_append]
        rw [e2]
        exact h
def runesOf (t : ByteArray) : List Int × Bool := if (t.size : Int) > 20000 then ([], false) else runesR t.data.toList []
theorem spec_Runes_ev (t : ByteArray) : Ev (fun k => spec_Runes.f k t) (runesOf t) := by
  unfold spec_Runes.f runesOf
  by_cases c : (t.size : Int) > 20000
  · simp only [c, if_true]
    exact Ev.now _
  · simp only [c, if_false]
    exact spec_Runes_l0_ev t.size t [] (Nat.le_refl _) (by simp; omega)
theorem impl_Runes_eq (t : ByteArray) : impl_Runes.f t = some (runesOf t) := by
  unfold impl_Runes.f runesOf runesR Lib.validD
  by_cases c : (t.size : Int) > 20000
  · rw [if_pos c, if_pos c]
  · rw [if_neg c, if_neg c, data_length]
    split <;> simp
theorem runes_length : ∀ (n : Nat) (l : List UInt8), (impl_Runes.from n l).length ≤ n
  | 0, _ => by simp [impl_Runes.from]
  | n + 1, l => by
    rw [impl_Runes.from]
    split
    · simp
    · have := runes_length n (l.drop (Lib.decodeL l).2)
      simp
      omega
theorem runesOf_length (t : ByteArray) : (runesOf t).1.length ≤ 20000 := by
  unfold runesOf runesR
  split
  · simp
  · rename_i h
    split
    · have := runes_length t.data.toList.length t.data.toList
      rw [data_length] at this
      simp only [List.nil_append, data_length]
      omega
    · simp
end Go.Proofs.YtbhklkpjjpkblaaDoor.PI
namespace Go.Proofs.YtbhklkpjjpkblaaDoor.PI
open Go.RowKit Go.Proofs.YtbhklkpjjpkblaaDoorW.PrintWords
set_option linter.unusedVariables false
set_option linter.unusedSimpArgs false
def firstB (c : Int) : Bool := decide ((97 ≤ c ∧ c ≤ 122) ∨ (65 ≤ c ∧ c ≤ 90) ∨ c = 95)
def moreB (c : Int) : Bool := decide ((97 ≤ c ∧ c ≤ 122) ∨ (65 ≤ c ∧ c ≤ 90) ∨ c = 95 ∨ (48 ≤ c ∧ c ≤ 57) ∨ c = 46 ∨ c = 45)
def nameOk (s : ByteArray) : Bool := decide (1 ≤ s.size) && (decide (s.size ≤ 40) && (firstB (bt s 0) && ((bytesOf s).drop 1).all moreB))
theorem spec_l1First_eq (c : Int) : spec_l1First.f c = some (firstB c) := by
  unfold spec_l1First.f firstB
  repeat' split
  all_goals (congr 1; first | (symm; exact decide_eq_true (by omega)) | (rw [Bool.eq_iff_iff]; simp only [beq_iff_eq, decide_eq_true_eq]; omega))
theorem spec_l1Digit_eq (c : Int) : spec_l1Digit.f c = some (decide (48 ≤ c ∧ c ≤ 57)) := by
  unfold spec_l1Digit.f
  split
  · congr 1
    rw [Bool.eq_iff_iff]
    simp only [decide_eq_true_eq]
    omega
  · congr 1
    symm
    exact decide_eq_false (by omega)
theorem spec_l1More_eq (c : Int) : spec_l1More.f c = some (moreB c) := by
  unfold spec_l1More.f moreB
  simp only [spec_l1First_eq, spec_l1Digit_eq, Option.bind_some, firstB, decide_eq_true_eq]
  repeat' split
  all_goals (congr 1; first | (symm; exact decide_eq_true (by omega)) | (rw [Bool.eq_iff_iff]; simp only [beq_iff_eq, decide_eq_true_eq]; omega))
theorem spec_NameOk_l0_ev (s : ByteArray) (hs : s.size ≤ 140737488351232) : ∀ (d n : Nat), n + d = s.size → Ev (fun k => spec_NameOk.l0 k s (n : Int)) (((bytesOf s).drop n).all moreB) := by
  intro d
  induction d with
  | zero =>
    intro n hn
    rw [bytes_drop_end s n (by omega)]
    refine Ev.later fun k => ?_
    simp only [spec_NameOk.l0]
    rw [if_neg (cast_nlt (by omega))]
    rfl
  | succ d ih =>
    intro n hn
    rw [bytes_drop s n (by omega), List.all_cons]
    refine Ev.step (f := fun k => if moreB (bt s n) = true then spec_NameOk.l0 k s ((n + 1 : Nat) : Int) else some false) (fun k => ?_) ?_
    · simp only [spec_NameOk.l0]
      rw [if_pos (cast_lt (by omega)), if_pos (by omega), spec_l1More_eq, Option.bind_some, wrap_succ (n := s.size) (by omega) (cast_lt (by omega)) (by omega)]
      rfl
    · cases h : moreB (bt s n)
      · simp only [Bool.false_eq_true, if_false, Bool.false_and]
        exact Ev.now _
      · simp only [if_true, Bool.true_and]
        exact ih (n + 1) (by omega)
theorem spec_NameOk_ev (s : ByteArray) (hs : s.size ≤ 140737488351232) : Ev (fun k => spec_NameOk.f k s) (nameOk s) := by
  unfold spec_NameOk.f nameOk
  by_cases h1 : (s.size : Int) < 1
  · simp only [h1, if_true]
    rw [decide_eq_false (by omega), Bool.false_and]
    exact Ev.later fun k => by simp only [spec_NameOk.j0, if_true]
  simp only [h1, if_false]
  rw [decide_eq_true (show 1 ≤ s.size by omega), Bool.true_and]
  by_cases h2 : (s.size : Int) > 40
  · simp only [h2, if_true]
    rw [decide_eq_false (by omega), Bool.false_and]
    exact Ev.later fun k => by simp only [spec_NameOk.j0, if_true]
  simp only [h2, if_false, show (0 : Int) < (s.size : Int) by omega, if_true, spec_l1First_eq, Option.bind_some]
  rw [decide_eq_true (show s.size ≤ 40 by omega), Bool.true_and]
  cases firstB (bt s 0)
  · exact Ev.later fun k => by simp only [spec_NameOk.j0, Bool.not_false, if_true, Bool.false_and]
  · simp only [Bool.not_true, Bool.true_and]
    refine Ev.step (f := fun k => spec_NameOk.l0 k s ((1 : Nat) : Int)) (fun k => by simp only [spec_NameOk.j0, Bool.false_eq_true, if_false]; rfl) ?_
    exact spec_NameOk_l0_ev s hs (s.size - 1) 1 (by omega)
set_option maxHeartbeats 8000000 in
theorem impl_NameOk_l0_yes (k : Nat) (s : ByteArray) (i : Int) (h0 : 0 ≤ i) (h : i < (s.size : Int)) (hc : (97 ≤ bt s i ∧ bt s i ≤ 122) ∨ (65 ≤ bt s i ∧ bt s i ≤ 90) ∨ bt s i = 95 ∨ (¬ i = 0 ∧ ((48 ≤ bt s i ∧ bt s i ≤ 57) ∨ bt s i = 46 ∨ bt s i = 45))) :
    impl_NameOk.l0 (k + 1) s (s.size : Int) i = impl_NameOk.l0 k s (s.size : Int) (wrap64 (i + 1)) := by
  simp only [impl_NameOk.l0]
  rw [if_pos h, if_pos h0]
  generalize impl_NameOk.l0 k s (s.size : Int) (wrap64 (i + 1)) = R
  generalize bt s i = c at hc
  repeat' split
  all_goals first | rfl | (exfalso; omega)
set_option maxHeartbeats 8000000 in
theorem impl_NameOk_l0_no (k : Nat) (s : ByteArray) (i : Int) (h0 : 0 ≤ i) (h : i < (s.size : Int)) (hc : ¬ ((97 ≤ bt s i ∧ bt s i ≤ 122) ∨ (65 ≤ bt s i ∧ bt s i ≤ 90) ∨ bt s i = 95 ∨ (¬ i = 0 ∧ ((48 ≤ bt s i ∧ bt s i ≤ 57) ∨ bt s i = 46 ∨ bt s i = 45)))) :
    impl_NameOk.l0 (k + 1) s (s.size : Int) i = some false := by
  simp only [impl_NameOk.l0]
  rw [if_pos h, if_pos h0]
  generalize impl_NameOk.l0 k s (s.size : Int) (wrap64 (i + 1)) = R
  generalize bt s i = c at hc
  repeat' split
  all_goals first | rfl | (exfalso; omega)
theorem impl_NameOk_l0_at (k : Nat) (s : ByteArray) (i : Int) (h0 : 0 ≤ i) (h : i < (s.size : Int)) :
    impl_NameOk.l0 (k + 1) s (s.size : Int) i = if (97 ≤ bt s i ∧ bt s i ≤ 122) ∨ (65 ≤ bt s i ∧ bt s i ≤ 90) ∨ bt s i = 95 ∨ (¬ i = 0 ∧ ((48 ≤ bt s i ∧ bt s i ≤ 57) ∨ bt s i = 46 ∨ bt s i = 45)) then impl_NameOk.l0 k s (s.size : Int) (wrap64 (i + 1)) else some false := by
  by_cases hc : (97 ≤ bt s i ∧ bt s i ≤ 122) ∨ (65 ≤ bt s i ∧ bt s i ≤ 90) ∨ bt s i = 95 ∨ (¬ i = 0 ∧ ((48 ≤ bt s i ∧ bt s i ≤ 57) ∨ bt s i = 46 ∨ bt s i = 45))
  · rw [if_pos hc]; exact impl_NameOk_l0_yes k s i h0 h hc
  · rw [if_neg hc]; exact impl_NameOk_l0_no k s i h0 h hc
theorem impl_NameOk_l0_ev (s : ByteArray) (hs : s.size ≤ 140737488351232) : ∀ (d n : Nat), 1 ≤ n → n + d = s.size → Ev (fun k => impl_NameOk.l0 k s (s.size : Int) (n : Int)) (((bytesOf s).drop n).all moreB && inR s.size 1 40) := by
  intro d
  induction d with
  | zero =>
    intro n h1 hn
    rw [bytes_drop_end s n (by omega)]
    refine Ev.later fun k => ?_
    simp only [impl_NameOk.l0]
    rw [if_neg (cast_nlt (by omega)), impl_in_eq]
    rfl
  | succ d ih =>
    intro n h1 hn
    rw [bytes_drop s n (by omega), List.all_cons]
    refine Ev.step (f := fun k => if moreB (bt s n) = true then impl_NameOk.l0 k s (s.size : Int) ((n + 1 : Nat) : Int) else some false) (fun k => ?_) ?_
    · rw [impl_NameOk_l0_at k s n (by omega) (cast_lt (by omega)), wrap_succ (n := s.size) (by omega) (cast_lt (by omega)) (by omega)]
      unfold moreB
      by_cases c : (97 ≤ bt s n ∧ bt s n ≤ 122) ∨ (65 ≤ bt s n ∧ bt s n ≤ 90) ∨ bt s n = 95 ∨ (48 ≤ bt s n ∧ bt s n ≤ 57) ∨ bt s n = 46 ∨ bt s n = 45
      · rw [if_pos (by omega), if_pos (decide_eq_true c)]
        rfl
      · rw [if_neg (by omega), if_neg (by rw [decide_eq_false c]; decide)]
    · cases h : moreB (bt s n)
      · simp only [Bool.false_eq_true, if_false, Bool.false_and]
        exact Ev.now _
      · simp only [if_true, Bool.true_and]
        exact ih (n + 1) (by omega) (by omega)
theorem impl_NameOk_ev (s : ByteArray) (hs : s.size ≤ 140737488351232) : Ev (fun k => impl_NameOk.f k s) (nameOk s) := by
  unfold impl_NameOk.f nameOk
  by_cases h1 : s.size = 0
  · rw [decide_eq_false (by omega), Bool.false_and]
    refine Ev.later fun k => ?_
    simp only [impl_NameOk.l0]
    rw [if_neg (by omega), impl_in_eq, Option.bind_some]
    congr 1
    unfold inR
    apply decide_eq_false
    omega
  rw [decide_eq_true (show 1 ≤ s.size by omega), Bool.true_and]
  refine Ev.step (f := fun k => if firstB (bt s 0) = true then impl_NameOk.l0 k s (s.size : Int) ((1 : Nat) : Int) else some false) (fun k => ?_) ?_
  · rw [impl_NameOk_l0_at k s 0 (by omega) (by omega), show wrap64 ((0 : Int) + 1) = ((1 : Nat) : Int) from w64 (by omega) (by omega)]
    unfold firstB
    by_cases c : (97 ≤ bt s 0 ∧ bt s 0 ≤ 122) ∨ (65 ≤ bt s 0 ∧ bt s 0 ≤ 90) ∨ bt s 0 = 95
    · rw [if_pos (by omega), if_pos (decide_eq_true c)]
    · rw [if_neg (by omega), if_neg (by rw [decide_eq_false c]; decide)]
  · cases h : firstB (bt s 0)
    · simp only [Bool.false_eq_true, if_false, Bool.false_and, Bool.and_false]
      exact Ev.now _
    · simp only [if_true, Bool.true_and]
      have := impl_NameOk_l0_ev s hs (s.size - 1) 1 (by omega) (by omega)
      have e : (decide (s.size ≤ 40) && ((bytesOf s).drop 1).all moreB) = (((bytesOf s).drop 1).all moreB && inR s.size 1 40) := by
        have e2 : inR (s.size : Int) 1 40 = decide (s.size ≤ 40) := by
          unfold inR
          rw [Bool.eq_iff_iff]
          simp only [decide_eq_true_eq]
          omega
        rw [e2, Bool.and_comm]
      rw [e]
      exact this
end Go.Proofs.YtbhklkpjjpkblaaDoor.PI
namespace Go.Proofs.YtbhklkpjjpkblaaDoor.PI
open Go.RowKit Go.Proofs.YtbhklkpjjpkblaaDoorW.PrintWords
set_option linter.unusedVariables false
set_option linter.unusedSimpArgs false
def fc : List Int → Int
  | [] => -1
  | b :: l => if b = 58 then 0 else if fc l = -1 then -1 else fc l + 1
theorem fc_range : ∀ l : List Int, -1 ≤ fc l ∧ fc l < (l.length : Int)
  | [] => by simp [fc]
  | b :: l => by
    have := fc_range l
    simp only [fc, List.length_cons]
    repeat' split
    all_goals omega
theorem indexByte_fc : ∀ l : List UInt8, Lib.indexByte l 58 = fc (l.map fun b => (b.toNat : Int))
  | [] => rfl
  | b :: l => by
    have ih := indexByte_fc l
    simp only [Lib.indexByte, fc, List.map_cons, ih]
    by_cases c : b = 58
    · subst c
      rfl
    · have c2 : ¬ (b.toNat : Int) = 58 := by
        intro e
        apply c
        apply UInt8.toNat_inj.1
        have : b.toNat = 58 := by omega
        rw [this]
        rfl
      have c3 : (b == 58) = false := beq_eq_false_iff_ne.2 c
      rw [if_neg c2, c3]
      simp
def splitI (s : ByteArray) : Int := fc (bytesOf s)
def noName : ByteArray × ByteArray × Bool := ((⟨#[]⟩ : ByteArray), (⟨#[]⟩ : ByteArray), false)
def splitF (s : ByteArray) : ByteArray × ByteArray × Bool :=
  if splitI s < 0 then (if nameOk s = true then ((⟨#[]⟩ : ByteArray), s, true) else noName)
  else if nameOk (s.extract 0 (splitI s).toNat) = true then (if nameOk (s.extract (splitI s + 1).toNat s.size) = true then (s.extract 0 (splitI s).toNat, s.extract (splitI s + 1).toNat s.size, true) else noName) else noName
theorem size_le {s : ByteArray} {a b : Nat} (hs : s.size ≤ 140737488351232) : (s.extract a b).size ≤ 140737488351232 := by
  rw [ByteArray.size_extract]
  omega
theorem splitI_range (s : ByteArray) : -1 ≤ splitI s ∧ splitI s < (s.size : Int) := by
  have := fc_range (bytesOf s)
  rw [bytesOf_length] at this
  exact this
theorem spec_Split_end (s : ByteArray) (hs : s.size ≤ 140737488351232) (n : Int) : Ev (fun k => spec_Split.j1 k s (splitI s) n false) (splitF s) := by
  have hr := splitI_range s
  unfold splitF
  by_cases c : splitI s < 0
  · refine Ev.step (f := fun k => (spec_NameOk.f k s).bind fun t => if t = true then some ((⟨#[]⟩ : ByteArray), s, true) else some noName) (fun k => ?_) ?_
    · simp only [spec_Split.j1, Bool.false_eq_true, if_false, c, if_true]
      rfl
    · refine Ev.bind (spec_NameOk_ev s hs) ?_
      simp only [c, if_true]
      cases nameOk s <;> exact Ev.now _
  · have w1 : wrap64 (splitI s + 1) = splitI s + 1 := w64 (by omega) (by omega)
    refine Ev.step (f := fun k => (spec_NameOk.f k (s.extract 0 (splitI s).toNat)).bind fun t => if t = true then ((spec_NameOk.f k (s.extract (splitI s + 1).toNat s.size)).bind fun u => if u = true then some (s.extract 0 (splitI s).toNat, s.extract (splitI s + 1).toNat s.size, true) else some noName) else some noName) (fun k => ?_) ?_
    · simp only [spec_Split.j1, Bool.false_eq_true, if_false, c, w1]
      rw [if_pos (show 0 ≤ splitI s by omega), if_pos (show splitI s ≤ (s.size : Int) by omega)]
      simp only [show (0 : Int) ≤ splitI s + 1 by omega, show splitI s + 1 ≤ (s.size : Int) by omega, if_true]
      rfl
    · refine Ev.bind (spec_NameOk_ev _ (size_le hs)) ?_
      simp only [c, if_false]
      cases nameOk (s.extract 0 (splitI s).toNat)
      · exact Ev.now _
      · simp only [if_true]
        refine Ev.bind (spec_NameOk_ev _ (size_le hs)) ?_
        cases nameOk (s.extract (splitI s + 1).toNat s.size) <;> exact Ev.now _
theorem spec_Split_found (s : ByteArray) (hs : s.size ≤ 140737488351232) (n : Int) (h : 0 ≤ splitI s) : Ev (fun k => spec_Split.l0 k s (splitI s) n) (splitF s) := by
  refine Ev.step (f := fun k => spec_Split.j1 k s (splitI s) n false) (fun k => ?_) (spec_Split_end s hs n)
  simp only [spec_Split.l0]
  rw [decide_eq_false (by omega)]
  split <;> rfl
theorem spec_Split_l0_ev (s : ByteArray) (hs : s.size ≤ 140737488351232) : ∀ (d n : Nat), n + d = s.size → ((fc ((bytesOf s).drop n) = -1 ∧ splitI s = -1) ∨ (0 ≤ fc ((bytesOf s).drop n) ∧ splitI s = fc ((bytesOf s).drop n) + n)) → Ev (fun k => spec_Split.l0 k s (-1) (n : Int)) (splitF s) := by
  intro d
  induction d with
  | zero =>
    intro n hn hi
    rw [bytes_drop_end s n (by omega)] at hi
    have hi2 : splitI s = -1 := by
      rcases hi with ⟨_, h⟩ | ⟨h, _⟩
      · exact h
      · exact absurd h (by decide)
    refine Ev.step (f := fun k => spec_Split.j1 k s (-1) (n : Int) false) (fun k => ?_) ?_
    · simp only [spec_Split.l0]
      rw [if_neg (cast_nlt (by omega))]
    · have := spec_Split_end s hs (n : Int)
      rw [hi2] at this
      exact this
  | succ d ih =>
    intro n hn hi
    have hfc : fc ((bytesOf s).drop n) = if bt s (n : Int) = 58 then 0 else if fc ((bytesOf s).drop (n + 1)) = -1 then -1 else fc ((bytesOf s).drop (n + 1)) + 1 := by
      rw [bytes_drop s n (by omega)]
      rfl
    by_cases c : bt s (n : Int) = 58
    · rw [if_pos c] at hfc
      have hi2 : splitI s = (n : Int) := by omega
      refine Ev.step (f := fun k => spec_Split.j1 k s (-1) (n : Int) true) (fun k => ?_) ?_
      · simp only [spec_Split.l0]
        rw [if_pos (cast_lt (by omega))]
        rfl
      · refine Ev.step (f := fun k => spec_Split.l0 k s (splitI s) ((n + 1 : Nat) : Int)) (fun k => ?_) (spec_Split_found s hs _ (by omega))
        simp only [spec_Split.j1, if_true]
        rw [if_pos (show (0 : Int) ≤ (n : Int) by omega), if_pos (cast_lt (by omega)), if_pos c, wrap_succ (n := s.size) (by omega) (cast_lt (by omega)) (by omega), hi2]
        rfl
    · rw [if_neg c] at hfc
      have next := ih (n + 1) (by omega) (by
        have := fc_range ((bytesOf s).drop (n + 1))
        by_cases e : fc ((bytesOf s).drop (n + 1)) = -1
        · rw [if_pos e] at hfc
          exact .inl ⟨e, by omega⟩
        · rw [if_neg e] at hfc
          exact .inr ⟨by omega, by omega⟩)
      refine Ev.step (f := fun k => spec_Split.j1 k s (-1) (n : Int) true) (fun k => ?_) ?_
      · simp only [spec_Split.l0]
        rw [if_pos (cast_lt (by omega))]
        rfl
      · refine Ev.step (f := fun k => spec_Split.l0 k s (-1) ((n + 1 : Nat) : Int)) (fun k => ?_) next
        simp only [spec_Split.j1, if_true]
        rw [if_pos (show (0 : Int) ≤ (n : Int) by omega), if_pos (cast_lt (by omega)), if_neg c, wrap_succ (n := s.size) (by omega) (cast_lt (by omega)) (by omega)]
        rfl
theorem spec_Split_ev (s : ByteArray) (hs : s.size ≤ 140737488351232) : Ev (fun k => spec_Split.f k s) (splitF s) := by
  unfold spec_Split.f
  refine spec_Split_l0_ev s hs s.size 0 (by omega) ?_
  unfold splitI
  rw [List.drop_zero]
  have := fc_range (bytesOf s)
  by_cases e : fc (bytesOf s) = -1
  · exact .inl ⟨e, e⟩
  · exact .inr ⟨by omega, by omega⟩
theorem strings_Cut_colon (s : ByteArray) (hs : s.size ≤ 140737488351232) : strings_Cut.f s (⟨#[58]⟩ : ByteArray) = some (if splitI s < 0 then (s, (⟨#[]⟩ : ByteArray), false) else (s.extract 0 (splitI s).toNat, s.extract (splitI s + 1).toNat s.size, true)) := by
  have hr := splitI_range s
  have hx : stringslite_Index.f s (⟨#[58]⟩ : ByteArray) = some (splitI s) := by
    unfold stringslite_Index.f
    rw [if_pos (by rfl)]
    by_cases c : (⟨#[58]⟩ : ByteArray).toList = s.toList
    · rw [if_pos c]
      have : s = ⟨#[58]⟩ := (bytes_inj c).symm
      subst this
      rfl
    · rw [if_neg c]
      unfold stringslite_IndexByte.f splitI
      have e : (bt (⟨#[58]⟩ : ByteArray) 0).toNat.toUInt8 = 58 := by decide
      rw [e, indexByte_fc]
      rfl
  unfold strings_Cut.f stringslite_Cut.f
  rw [hx]
  simp only [Option.bind_some]
  by_cases c : splitI s < 0
  · rw [if_neg (show ¬ splitI s ≥ 0 by omega), if_pos c]
    rfl
  · have w1 : wrap64 (splitI s + (((⟨#[58]⟩ : ByteArray).size : Nat) : Int)) = splitI s + 1 := w64 (by have : ((⟨#[58]⟩ : ByteArray).size : Int) = 1 := rfl; omega) (by have : ((⟨#[58]⟩ : ByteArray).size : Int) = 1 := rfl; omega)
    rw [if_pos (show splitI s ≥ 0 by omega), if_pos (show 0 ≤ splitI s by omega), if_pos (show splitI s ≤ (s.size : Int) by omega), w1, if_pos (show 0 ≤ splitI s + 1 by omega), if_pos (show splitI s + 1 ≤ (s.size : Int) by omega), if_neg c]
    rfl
theorem impl_Split_ev (s : ByteArray) (hs : s.size ≤ 140737488351232) : Ev (fun k => impl_Split.f k s) (splitF s) := by
  unfold impl_Split.f splitF
  rw [strings_Cut_colon s hs]
  simp only [Option.bind_some]
  by_cases c : splitI s < 0
  · simp only [c, if_true, Bool.false_eq_true, if_false]
    refine Ev.bind (impl_NameOk_ev s hs) ?_
    refine Ev.later fun k => ?_
    cases nameOk s <;> simp only [impl_Split.j0, Bool.false_eq_true, if_false, if_true] <;> rfl
  · simp only [c, if_false, if_true]
    refine Ev.step (f := fun k => (impl_NameOk.f k (s.extract 0 (splitI s).toNat)).bind fun t => if t = true then ((impl_NameOk.f k (s.extract (splitI s + 1).toNat s.size)).bind fun u => if u = true then some (s.extract 0 (splitI s).toNat, s.extract (splitI s + 1).toNat s.size, true) else some noName) else some noName) (fun k => ?_) ?_
    · simp only [impl_Split.j0, Bool.false_eq_true, if_false, if_true]
      rfl
    · refine Ev.bind (impl_NameOk_ev _ (size_le hs)) ?_
      cases nameOk (s.extract 0 (splitI s).toNat)
      · exact Ev.now _
      · simp only [if_true]
        refine Ev.bind (impl_NameOk_ev _ (size_le hs)) ?_
        cases nameOk (s.extract (splitI s + 1).toNat s.size) <;> exact Ev.now _
end Go.Proofs.YtbhklkpjjpkblaaDoor.PI
namespace Go.Proofs.YtbhklkpjjpkblaaDoor.PI
open Go.RowKit Go.Proofs.YtbhklkpjjpkblaaDoorW.PrintWords Go.Proofs.YtbhklkpjjpkblaaDoorW.PrintMore
set_option linter.unusedVariables false
set_option linter.unusedSimpArgs false
def charB (r : Int) : Bool := decide (r = 9 ∨ r = 10 ∨ r = 13 ∨ (32 ≤ r ∧ r ≤ 55295) ∨ (57344 ≤ r ∧ r ≤ 65533) ∨ (65536 ≤ r ∧ r ≤ 1114111))
theorem spec_CharOk_eq (r : Int) : spec_CharOk.f r = some (charB r) := by
  unfold spec_CharOk.f charB
  simp only [spec_l1In_eq, Option.bind_some, inR]
  by_cases c1 : r = 9
  · simp [c1]
  by_cases c2 : r = 10
  · simp [c2]
  by_cases c3 : r = 13
  · simp [c3]
  by_cases c4 : 32 ≤ r ∧ r ≤ 55295
  · simp [c1, c2, c3, c4]
  by_cases c5 : 57344 ≤ r ∧ r ≤ 65533
  · simp [c1, c2, c3, c4, c5]
  · simp [c1, c2, c3, c4, c5]
theorem impl_CharOk_eq (r : Int) : impl_CharOk.f r = some (charB r) := by
  unfold impl_CharOk.f charB
  simp only [impl_in_eq, Option.bind_some, inR]
  by_cases c1 : r = 9
  · simp [c1]
  by_cases c2 : r = 10
  · simp [c2]
  by_cases c3 : r = 13
  · simp [c3]
  by_cases c4 : 32 ≤ r ∧ r ≤ 55295
  · simp [c1, c2, c3, c4]
  by_cases c5 : 57344 ≤ r ∧ r ≤ 65533
  · simp [c1, c2, c3, c4, c5]
  · simp [c1, c2, c3, c4, c5]
def textB (s : ByteArray) : Bool := (runesOf s).2 && (runesOf s).1.all charB
theorem spec_Text_l0_ev (l : List Int) (hl : l.length ≤ 1000000) : ∀ d n, n + d = l.length → Ev (fun k => spec_l1Text.l0 k l (n : Int)) ((l.drop n).all charB) := by
  intro d
  induction d with
  | zero =>
    intro n hn
    rw [List.drop_eq_nil_of_le (by omega)]
    refine Ev.later fun k => ?_
    simp only [spec_l1Text.l0]
    rw [if_neg (cast_nlt (by omega))]
    rfl
  | succ d ih =>
    intro n hn
    rw [list_drop l n (by omega), List.all_cons]
    cases c : charB (rd l (n : Int)) with
    | true =>
      rw [Bool.true_and]
      refine Ev.step (fun k => ?_) (ih (n + 1) (by omega))
      simp only [spec_l1Text.l0]
      rw [if_pos (cast_lt (by omega)), if_pos (by omega), spec_CharOk_eq, c, Option.bind_some, if_pos rfl, wrap_succ (n := l.length) (by omega) (cast_lt (by omega)) (by omega)]
      rfl
    | false =>
      rw [Bool.false_and]
      refine Ev.later fun k => ?_
      simp only [spec_l1Text.l0]
      rw [if_pos (cast_lt (by omega)), if_pos (by omega), spec_CharOk_eq, c, Option.bind_some, if_neg (by decide)]
theorem spec_l1Text_ev (s : ByteArray) : Ev (fun k => spec_l1Text.f k s) (textB s) := by
  unfold spec_l1Text.f textB
  refine Ev.bind (spec_Runes_ev s) ?_
  have hl := runesOf_length s
  cases (runesOf s).2 with
  | false => simp only [Bool.false_eq_true, if_false, Bool.false_and]; exact Ev.now _
  | true =>
    simp only [if_true, Bool.true_and]
    exact spec_Text_l0_ev (runesOf s).1 (by omega) (runesOf s).1.length 0 (by omega)
theorem impl_Plain_l0_ev (l : List Int) (hl : l.length ≤ 1000000) : ∀ d n b, n + d = l.length → Ev (fun k => impl_isPlain.l0 k b l (l.length : Int) (n : Int)) (b && (l.drop n).all charB) := by
  intro d
  induction d with
  | zero =>
    intro n b hn
    rw [List.drop_eq_nil_of_le (by omega)]
    refine Ev.later fun k => ?_
    simp only [impl_isPlain.l0]
    rw [if_neg (cast_nlt (by omega))]
    simp
  | succ d ih =>
    intro n b hn
    rw [list_drop l n (by omega), List.all_cons]
    cases b with
    | true =>
      rw [Bool.true_and]
      refine Ev.step (fun k => ?_) (ih (n + 1) (charB (rd l (n : Int))) (by omega))
      simp only [impl_isPlain.l0]
      rw [if_pos (cast_lt (by omega)), if_pos (by omega), if_pos (cast_lt (by omega)), if_pos trivial, impl_CharOk_eq, Option.bind_some, wrap_succ (n := l.length) (by omega) (cast_lt (by omega)) (by omega)]
      rfl
    | false =>
      have h := ih (n + 1) false (by omega)
      rw [Bool.false_and] at h ⊢
      refine Ev.step (fun k => ?_) h
      simp only [impl_isPlain.l0]
      rw [if_pos (cast_lt (by omega)), if_pos (by omega), if_pos (cast_lt (by omega)), if_neg (by decide), wrap_succ (n := l.length) (by omega) (cast_lt (by omega)) (by omega)]
      rfl
theorem impl_isPlain_ev (s : ByteArray) : Ev (fun k => impl_isPlain.f k s) (textB s) := by
  unfold impl_isPlain.f textB
  simp only [impl_Runes_eq, Option.bind_some]
  have hl := runesOf_length s
  exact impl_Plain_l0_ev (runesOf s).1 (by omega) (runesOf s).1.length 0 (runesOf s).2 (by omega)
def qualB (s : ByteArray) : Bool := (splitF s).2.2
theorem spec_l1Qual_ev (s : ByteArray) (hs : s.size ≤ 140737488351232) : Ev (fun k => spec_l1Qual.f k s) (qualB s) := by
  unfold spec_l1Qual.f qualB
  exact Ev.bind (spec_Split_ev s hs) (Ev.now _)
theorem impl_isQualified_ev (s : ByteArray) (hs : s.size ≤ 140737488351232) : Ev (fun k => impl_isQualified.f k s) (qualB s) := by
  unfold impl_isQualified.f qualB
  exact Ev.bind (impl_Split_ev s hs) (Ev.now _)
end Go.Proofs.YtbhklkpjjpkblaaDoor.PI
namespace Go.Proofs.YtbhklkpjjpkblaaDoor.PI
open Go.RowKit Go.Proofs.YtbhklkpjjpkblaaDoorW.PrintWords Go.Proofs.YtbhklkpjjpkblaaDoorW.PrintMore
set_option linter.unusedVariables false
set_option linter.unusedSimpArgs false
def smallA (l : List S76) : Prop := l.length ≤ 1048576 ∧ ∀ y ∈ l, y.f0.size ≤ 1048576 ∧ y.f1.size ≤ 1048576
def smallI (x : S74) : Prop := x.f1.size ≤ 1048576 ∧ x.f2.size ≤ 1048576 ∧ smallA x.f3
def neA (a y : S76) : Bool := decide (¬ y.f0.toList = a.f0.toList)
def attrsR (l : List S76) : Nat → Nat → Bool
  | 0, _ => true
  | d + 1, n => (qualB (rd_T76 l (n : Int)).f0 && textB (rd_T76 l (n : Int)).f1) && ((l.take n).all (neA (rd_T76 l (n : Int))) && attrsR l d (n + 1))
def attrsB (l : List S76) : Bool := decide (l.length ≤ 10) && attrsR l l.length 0
theorem spec_Attrs_l1_ev (l : List S76) (hl : l.length ≤ 1048576) (n : Nat) (hn : n < l.length) (r : Bool) (hr : Ev (fun k => spec_l2Attrs.l0 k l ((n + 1 : Nat) : Int)) r) : ∀ d m, m + d = n → Ev (fun k => spec_l2Attrs.l1 k l (n : Int) (m : Int)) (((l.take n).drop m).all (neA (rd_T76 l (n : Int))) && r) := by
  intro d
  induction d with
  | zero =>
    intro m hm
    rw [List.drop_eq_nil_of_le (by rw [List.length_take]; omega)]
    simp only [List.all_nil, Bool.true_and]
    refine Ev.step (fun k => ?_) hr
    simp only [spec_l2Attrs.l1]
    rw [if_neg (cast_nlt (by omega)), wrap_succ (n := l.length) (by omega) (cast_lt hn) (by omega)]
    rfl
  | succ d ih =>
    intro m hm
    have hm2 : m < (l.take n).length := by rw [List.length_take]; omega
    rw [List.drop_eq_getElem_cons hm2, List.all_cons, List.getElem_take]
    have e : rd_T76 l (m : Int) = l[m]'(by omega) := getIA l m (by omega)
    by_cases c : (l[m]'(by omega)).f0.toList = (rd_T76 l (n : Int)).f0.toList
    · rw [show neA (rd_T76 l (n : Int)) (l[m]'(by omega)) = false from by unfold neA; simp [c], Bool.false_and, Bool.false_and]
      refine Ev.later fun k => ?_
      simp only [spec_l2Attrs.l1]
      rw [if_pos (cast_lt (by omega)), if_pos (by omega), if_pos (cast_lt (by omega)), if_pos (by omega), if_pos (cast_lt (by omega)), e, if_pos c]
    · rw [show neA (rd_T76 l (n : Int)) (l[m]'(by omega)) = true from by unfold neA; simp [c], Bool.true_and]
      refine Ev.step (fun k => ?_) (ih (m + 1) (by omega))
      simp only [spec_l2Attrs.l1]
      rw [if_pos (cast_lt (by omega)), if_pos (by omega), if_pos (cast_lt (by omega)), if_pos (by omega), if_pos (cast_lt (by omega)), e, if_neg c, wrap_succ (n := l.length) (by omega) (cast_lt (by omega)) (by omega)]
      rfl
theorem spec_Attrs_l0_ev (l : List S76) (hl : smallA l) : ∀ d n, n + d = l.length → Ev (fun k => spec_l2Attrs.l0 k l (n : Int)) (attrsR l d n) := by
  intro d
  induction d with
  | zero =>
    intro n hn
    refine Ev.later fun k => ?_
    simp only [spec_l2Attrs.l0]
    rw [if_neg (cast_nlt (by omega))]
    rfl
  | succ d ih =>
    intro n hn
    have hn2 : n < l.length := by omega
    have e : rd_T76 l (n : Int) = l[n] := getIA l n hn2
    have hs := hl.2 l[n] (List.getElem_mem _)
    rw [attrsR]
    have hq := spec_l1Qual_ev (rd_T76 l (n : Int)).f0 (by rw [e]; omega)
    have step : ∀ k, spec_l2Attrs.l0 (k + 1) l (n : Int) = (spec_l1Qual.f k ((rd_T76 l (n : Int)).f0)).bind fun t141 => (if t141 = true then ((spec_l1Text.f k ((rd_T76 l (n : Int)).f1)).bind fun t143 => (spec_l2Attrs.j1 k l (n : Int) (!t143))) else (spec_l2Attrs.j1 k l (n : Int) true)) := fun k => by
      simp only [spec_l2Attrs.l0]
      rw [if_pos (cast_lt hn2), if_pos (by omega)]
    have bad : Ev (fun k => spec_l2Attrs.j1 k l (n : Int) true) false := Ev.later fun k => by simp only [spec_l2Attrs.j1, if_true]
    refine Ev.step step (Ev.bind hq ?_)
    cases qualB (rd_T76 l (n : Int)).f0 with
    | false => simp only [Bool.false_eq_true, if_false, Bool.false_and]; exact bad
    | true =>
      simp only [if_true, Bool.true_and]
      refine Ev.bind (spec_l1Text_ev _) ?_
      cases textB (rd_T76 l (n : Int)).f1 with
      | false => simp only [Bool.not_false, Bool.false_and]; exact bad
      | true =>
        simp only [Bool.not_true, Bool.true_and]
        have h := spec_Attrs_l1_ev l hl.1 n hn2 _ (ih (n + 1) (by omega)) n 0 (by omega)
        rw [List.drop_zero] at h
        refine Ev.step (fun k => ?_) h
        simp only [spec_l2Attrs.j1, Bool.false_eq_true, if_false]
        rfl
theorem spec_Attrs_ev (l : List S76) (hl : smallA l) : Ev (fun k => spec_l2Attrs.f k l) (attrsB l) := by
  unfold spec_l2Attrs.f attrsB
  by_cases c : (l.length : Int) > 10
  · simp only [c, if_true]
    rw [decide_eq_false (by omega), Bool.false_and]
    exact Ev.now _
  · simp only [c, if_false]
    rw [decide_eq_true (by omega), Bool.true_and]
    exact spec_Attrs_l0_ev l hl l.length 0 (by omega)
section
variable (u : Int) (v w : ByteArray)
theorem impl_Good_l1_ev (l : List S76) (hl : l.length ≤ 1048576) (n : Nat) (hn : n < l.length) (r : Bool) (hr : Ev (fun k => impl_Item_isGood.l0 k l (l.length : Int) ((n + 1 : Nat) : Int) u v w l) r) : ∀ d m, m + d = n → Ev (fun k => impl_Item_isGood.l1 k l (l.length : Int) (n : Int) (l.take n) ((l.take n).length : Int) (m : Int) u v w l (rd_T76 l (n : Int)).f0 (rd_T76 l (n : Int)).f1) (((l.take n).drop m).all (neA (rd_T76 l (n : Int))) && r) := by
  have ht : (l.take n).length = n := by rw [List.length_take]; omega
  intro d
  induction d with
  | zero =>
    intro m hm
    rw [List.drop_eq_nil_of_le (by omega)]
    simp only [List.all_nil, Bool.true_and]
    refine Ev.step (fun k => ?_) hr
    simp only [impl_Item_isGood.l1]
    rw [if_neg (cast_nlt (by omega)), wrap_succ (n := l.length) (by omega) (cast_lt hn) (by omega)]
    rfl
  | succ d ih =>
    intro m hm
    have hm2 : m < (l.take n).length := by omega
    have e : rd_T76 (l.take n) (m : Int) = (l.take n)[m] := getIA _ m hm2
    rw [List.drop_eq_getElem_cons hm2, List.all_cons]
    by_cases c : (l.take n)[m].f0.toList = (rd_T76 l (n : Int)).f0.toList
    · rw [show neA (rd_T76 l (n : Int)) (l.take n)[m] = false from by unfold neA; simp only [c, not_true, decide_false], Bool.false_and, Bool.false_and]
      refine Ev.later fun k => ?_
      simp only [impl_Item_isGood.l1]
      rw [if_pos (cast_lt hm2), if_pos (by omega), if_pos (cast_lt hm2), e, if_pos c.symm]
    · rw [show neA (rd_T76 l (n : Int)) (l.take n)[m] = true from by unfold neA; exact decide_eq_true c, Bool.true_and]
      refine Ev.step (fun k => ?_) (ih (m + 1) (by omega))
      simp only [impl_Item_isGood.l1]
      rw [if_pos (cast_lt hm2), if_pos (by omega), if_pos (cast_lt hm2), e, if_neg (fun h => c h.symm), wrap_succ (n := (l.take n).length) (by omega) (cast_lt hm2) (by omega)]
      rfl
theorem impl_Good_l0_ev (l : List S76) (hl : smallA l) : ∀ d n, n + d = l.length → Ev (fun k => impl_Item_isGood.l0 k l (l.length : Int) (n : Int) u v w l) (attrsR l d n) := by
  intro d
  induction d with
  | zero =>
    intro n hn
    refine Ev.later fun k => ?_
    simp only [impl_Item_isGood.l0]
    rw [if_neg (cast_nlt (by omega))]
    rfl
  | succ d ih =>
    intro n hn
    have hn2 : n < l.length := by omega
    have e : rd_T76 l (n : Int) = l[n] := getIA l n hn2
    have hs := hl.2 l[n] (List.getElem_mem _)
    rw [attrsR]
    have hq := impl_isQualified_ev (rd_T76 l (n : Int)).f0 (by rw [e]; omega)
    have bad : Ev (fun k => impl_Item_isGood.j2 k (n : Int) l (l.length : Int) (n : Int) true u v w l (rd_T76 l (n : Int)).f0 (rd_T76 l (n : Int)).f1) false := Ev.later fun k => by simp only [impl_Item_isGood.j2, if_true]
    have step : ∀ k, impl_Item_isGood.l0 (k + 1) l (l.length : Int) (n : Int) u v w l = (impl_isQualified.f k ((rd_T76 l (n : Int)).f0)).bind fun t214 => (if t214 = true then ((impl_isPlain.f k ((rd_T76 l (n : Int)).f1)).bind fun t215 => (impl_Item_isGood.j2 k (n : Int) l (l.length : Int) (n : Int) (!t215) u v w l ((rd_T76 l (n : Int)).f0) ((rd_T76 l (n : Int)).f1))) else (impl_Item_isGood.j2 k (n : Int) l (l.length : Int) (n : Int) true u v w l ((rd_T76 l (n : Int)).f0) ((rd_T76 l (n : Int)).f1))) := fun k => by
      simp only [impl_Item_isGood.l0]
      rw [if_pos (cast_lt hn2), if_pos (by omega), if_pos (cast_lt hn2)]
    refine Ev.step step (Ev.bind hq ?_)
    cases qualB (rd_T76 l (n : Int)).f0 with
    | false => simp only [Bool.false_eq_true, if_false, Bool.false_and]; exact bad
    | true =>
      simp only [if_true, Bool.true_and]
      refine Ev.bind (impl_isPlain_ev _) ?_
      cases textB (rd_T76 l (n : Int)).f1 with
      | false => simp only [Bool.not_false, Bool.false_and]; exact bad
      | true =>
        simp only [Bool.not_true, Bool.true_and]
        have h := impl_Good_l1_ev u v w l hl.1 n hn2 _ (ih (n + 1) (by omega)) n 0 (by omega)
        rw [List.drop_zero] at h
        refine Ev.step (fun k => ?_) h
        simp only [impl_Item_isGood.j2, Bool.false_eq_true, if_false]
        rw [if_pos (by omega), if_pos (by omega), Option.bind_some, Int.toNat_natCast]
        rfl
end
def goodI (x : S74) : Bool := if x.f1.toList = [] then (decide (¬ x.f2.toList = []) && (textB x.f2 && decide (x.f3.length = 0))) else (qualB x.f1 && (decide (x.f2.toList = []) && attrsB x.f3))
theorem impl_isGood_ev (x : S74) (hx : smallI x) : Ev (fun k => impl_Item_isGood.f k x.f0 x.f1 x.f2 x.f3) (goodI x) := by
  obtain ⟨h1, h2, h3⟩ := hx
  have hz := h3.1
  unfold impl_Item_isGood.f goodI
  by_cases c : x.f1.toList = []
  · simp only [c, if_true]
    by_cases d : x.f2.toList = []
    · simp only [d, if_true]
      simp only [not_true, decide_false, Bool.false_and]
      exact Ev.now _
    · simp only [d, if_false, not_false_eq_true, decide_true, Bool.true_and]
      refine Ev.bind (impl_isPlain_ev _) ?_
      cases textB x.f2 with
      | false => simp only [Bool.false_eq_true, if_false, Bool.false_and]; exact Ev.now _
      | true =>
        simp only [if_true, Bool.true_and]
        rw [show ((x.f3.length : Int) == 0) = decide (x.f3.length = 0) from by by_cases e : x.f3.length = 0 <;> simp [e]]
        exact Ev.now _
  · simp only [c, if_false]
    have bad : Ev (fun k => impl_Item_isGood.j0 k true x.f0 x.f1 x.f2 x.f3) false := Ev.later fun k => by simp only [impl_Item_isGood.j0, if_true]
    refine Ev.bind (impl_isQualified_ev x.f1 (by omega)) ?_
    cases qualB x.f1 with
    | false => simp only [Bool.false_eq_true, if_false, Bool.false_and]; exact bad
    | true =>
      simp only [if_true, Bool.true_and]
      by_cases d : x.f2.toList = []
      · simp only [d, if_true, decide_true, Bool.true_and]
        unfold attrsB
        by_cases e : x.f3.length ≤ 10
        · rw [decide_eq_true e, Bool.true_and, decide_eq_false (by omega)]
          refine Ev.step (fun k => ?_) (impl_Good_l0_ev x.f0 x.f1 x.f2 x.f3 h3 x.f3.length 0 (by omega))
          simp only [impl_Item_isGood.j0, Bool.false_eq_true, if_false]
          rfl
        · rw [decide_eq_false e, Bool.false_and, decide_eq_true (by omega)]
          exact bad
      · simp only [d, if_false, decide_false, Bool.false_and]
        exact bad
def wB (x : S74) : Nat := x.f1.size + x.f2.size + wAs x.f3
theorem wAs_drop (l : List S76) (n : Nat) (h : n < l.length) : wAs (l.drop n) = wA l[n] + wAs (l.drop (n + 1)) := by rw [List.drop_eq_getElem_cons h, wAs_cons]
theorem impl_bytes_l0_ev (l : List S76) (hl : l.length ≤ 2000000) (hw : wAs l ≤ 2000000) : ∀ d n (s : Int), n + d = l.length → 0 ≤ s → s + wAs (l.drop n) ≤ 10000000 → Ev (fun k => impl_Item_bytes.l0 k s l (l.length : Int) (n : Int)) (s + wAs (l.drop n)) := by
  intro d
  induction d with
  | zero =>
    intro n s hn h0 h1
    refine Ev.later fun k => ?_
    simp only [impl_Item_bytes.l0]
    rw [if_neg (cast_nlt (by omega)), List.drop_eq_nil_of_le (by omega)]
    simp [wAs]
  | succ d ih =>
    intro n s hn h0 h1
    have hn2 : n < l.length := by omega
    have e : rd_T76 l (n : Int) = l[n] := getIA l n hn2
    have ew := wAs_drop l n hn2
    rw [ew] at h1 ⊢
    have hA : wA l[n] = l[n].f0.size + l[n].f1.size := rfl
    have h := ih (n + 1) (s + wA l[n]) (by omega) (by omega) (by omega)
    rw [show s + ((wA l[n] + wAs (l.drop (n + 1)) : Nat) : Int) = s + wA l[n] + wAs (l.drop (n + 1)) by omega]
    refine Ev.step (fun k => ?_) h
    simp only [impl_Item_bytes.l0]
    rw [if_pos (cast_lt hn2), if_pos (by omega), if_pos (cast_lt hn2), e, wrap_succ (n := l.length) (by omega) (cast_lt hn2) (by omega), w64 (x := (l[n].f0.size : Int) + (l[n].f1.size : Int)) (by omega) (by omega), w64 (by omega) (by omega)]
    rw [show s + ((l[n].f0.size : Int) + (l[n].f1.size : Int)) = s + wA l[n] by omega]
    rfl
theorem impl_bytes_ev (x : S74) (hw : wI x ≤ 2000000) : Ev (fun k => impl_Item_bytes.f k x.f0 x.f1 x.f2 x.f3) (wB x : Int) := by
  unfold impl_Item_bytes.f
  have e1 : wI x = x.f1.size + x.f2.size + x.f3.length + wAs x.f3 := rfl
  have e2 : wB x = x.f1.size + x.f2.size + wAs x.f3 := rfl
  rw [w64 (x := (x.f1.size : Int) + (x.f2.size : Int)) (by omega) (by omega)]
  have h := impl_bytes_l0_ev x.f3 (by omega) (by omega) x.f3.length 0 ((x.f1.size : Int) + (x.f2.size : Int)) (by omega) (by omega) (by rw [List.drop_zero]; omega)
  rw [List.drop_zero] at h
  rw [show ((wB x : Nat) : Int) = (x.f1.size : Int) + (x.f2.size : Int) + wAs x.f3 by omega]
  exact h
end Go.Proofs.YtbhklkpjjpkblaaDoor.PI
namespace Go.Proofs.YtbhklkpjjpkblaaDoor.PI
open Go.RowKit Go.Proofs.YtbhklkpjjpkblaaDoorW.PrintWords Go.Proofs.YtbhklkpjjpkblaaDoorW.PrintMore
set_option linter.unusedVariables false
set_option linter.unusedSimpArgs false
def Ch (L : List S74) : List Nat → Prop
  | [] => False
  | [j] => j < L.length ∧ (rd_T74 L (j : Int)).f0 = -1
  | j :: e :: C => j < L.length ∧ (rd_T74 L (j : Int)).f0 = (e : Int) ∧ Ch L (e :: C)
def stk (L : List S74) (i : Nat) (C : List Nat) : List Nat := if (rd_T74 L ((i - 1 : Nat) : Int)).f1.toList = [] then C.tail else C
def notUp (L : List S74) (i : Nat) (e : Nat) : Bool := decide (¬ (e : Int) = (rd_T74 L (i : Int)).f0)
def pop (L : List S74) (i : Nat) (C : List Nat) : List Nat := (stk L i C).dropWhile (notUp L i)
def twin (L : List S74) (i : Nat) : Prop := (rd_T74 L (i : Int)).f1.toList = [] ∧ (rd_T74 L ((i - 1 : Nat) : Int)).f1.toList = [] ∧ (rd_T74 L ((i - 1 : Nat) : Int)).f0 = (rd_T74 L (i : Int)).f0
instance (L : List S74) (i : Nat) : Decidable (twin L i) := by unfold twin; infer_instance
def linkB (L : List S74) (i : Nat) (C : List Nat) : Bool := decide (¬ pop L i C = []) && (decide ((pop L i C).length < 20) && decide (¬ twin L i))
def docR (L : List S74) : Nat → Nat → List Nat → Int → Bool
  | 0, _, _, s => decide (s ≤ 2500)
  | d + 1, i, C, s => goodI (rd_T74 L (i : Int)) && (linkB L i C && docR L d (i + 1) (i :: pop L i C) (s + wB (rd_T74 L (i : Int))))
theorem docR_big (L : List S74) : ∀ d i C (s : Int), 2500 < s → docR L d i C s = false
  | 0, _, _, s, h => by rw [docR]; exact decide_eq_false (by omega)
  | d + 1, i, C, s, h => by rw [docR, docR_big L d _ _ _ (by omega)]; simp
theorem Ch_drop (L : List S74) (p : Nat → Bool) : ∀ C, Ch L C → C.dropWhile p = [] ∨ Ch L (C.dropWhile p)
  | [], h => h.elim
  | [j], h => by
    rw [List.dropWhile_cons]
    split
    · left; rfl
    · right; exact h
  | j :: a :: C, h => by
    rw [List.dropWhile_cons]
    split
    · exact Ch_drop L p (a :: C) h.2.2
    · right; exact h
theorem Ch_tail (L : List S74) : ∀ C, Ch L C → C.tail = [] ∨ Ch L C.tail
  | [], h => h.elim
  | [j], _ => Or.inl rfl
  | j :: a :: C, h => Or.inr h.2.2
theorem drop_head (p : Nat → Bool) : ∀ (C : List Nat) (e : Nat) (T : List Nat), C.dropWhile p = e :: T → p e = false ∧ e ∈ C ∧ (∀ x ∈ T, x ∈ C) ∧ (e :: T).length ≤ C.length
  | [], _, _, h => by simp at h
  | a :: C, e, T, h => by
    rw [List.dropWhile_cons] at h
    by_cases c : p a = true
    · rw [if_pos c] at h
      obtain ⟨h1, h2, h3, h4⟩ := drop_head p C e T h
      exact ⟨h1, List.mem_cons_of_mem _ h2, fun x hx => List.mem_cons_of_mem _ (h3 x hx), by simp only [List.length_cons] at h4 ⊢; omega⟩
    · rw [if_neg c] at h
      injection h with ha hT
      subst ha hT
      exact ⟨Bool.eq_false_iff.mpr c, List.mem_cons_self .., fun x hx => List.mem_cons_of_mem _ hx, Nat.le_refl _⟩
theorem drop_none (p : Nat → Bool) : ∀ (C : List Nat), C.dropWhile p = [] → ∀ e ∈ C, p e = true
  | [], _, _, h => by simp at h
  | a :: C, h, e, he => by
    rw [List.dropWhile_cons] at h
    by_cases c : p a = true
    · rw [if_pos c] at h
      rcases List.mem_cons.1 he with e1 | e1
      · rw [e1]; exact c
      · exact drop_none p C h e e1
    · rw [if_neg c] at h; cases h
structure Inv (L : List S74) (i : Nat) (C : List Nat) : Prop where
  ch : Ch L C
  hd : C.head? = some (i - 1)
  lt : ∀ e ∈ C, e < i
  el : ∀ e ∈ C.tail, ¬ (rd_T74 L (e : Int)).f1.toList = []
  pos : 1 ≤ i
theorem Inv.stk_el {L : List S74} {i : Nat} {C : List Nat} (h : Inv L i C) : ∀ e ∈ stk L i C, ¬ (rd_T74 L (e : Int)).f1.toList = [] := by
  intro e he
  unfold stk at he
  split at he
  · exact h.el e he
  · rename_i hn
    have hd := h.hd
    cases C with
    | nil => simp at he
    | cons a C =>
      simp only [List.head?_cons, Option.some.injEq] at hd
      rcases List.mem_cons.1 he with e1 | e1
      · rw [e1, hd]; exact hn
      · exact h.el e e1
theorem Inv.stk_in {L : List S74} {i : Nat} {C : List Nat} (h : Inv L i C) : ∀ e ∈ stk L i C, e ∈ C := by
  intro e he
  unfold stk at he
  split at he
  · exact List.mem_of_mem_tail he
  · exact he
theorem Inv.in_stk {L : List S74} {i : Nat} {C : List Nat} (h : Inv L i C) : ∀ e ∈ C, ¬ (rd_T74 L (e : Int)).f1.toList = [] → e ∈ stk L i C := by
  intro e he hn
  unfold stk
  split
  · rename_i ht
    have hd := h.hd
    cases C with
    | nil => simp at he
    | cons a C =>
      simp only [List.head?_cons, Option.some.injEq] at hd
      rcases List.mem_cons.1 he with e1 | e1
      · rw [e1, hd] at hn; exact absurd ht hn
      · exact e1
  · exact he
theorem Inv.stk_ch {L : List S74} {i : Nat} {C : List Nat} (h : Inv L i C) : stk L i C = [] ∨ Ch L (stk L i C) := by
  unfold stk
  split
  · exact Ch_tail L C h.ch
  · exact Or.inr h.ch
theorem Inv.pop_ch {L : List S74} {i : Nat} {C : List Nat} (h : Inv L i C) : pop L i C = [] ∨ Ch L (pop L i C) := by
  unfold pop
  rcases h.stk_ch with e | e
  · rw [e]; left; rfl
  · exact Ch_drop L _ _ e
theorem Inv.pop_in {L : List S74} {i : Nat} {C : List Nat} (h : Inv L i C) : ∀ e ∈ pop L i C, e ∈ stk L i C := fun e he => (List.dropWhile_sublist _).subset he
theorem Inv.next {L : List S74} {i : Nat} {C : List Nat} (h : Inv L i C) (hi : i < L.length) (hp : ¬ pop L i C = []) : Inv L (i + 1) (i :: pop L i C) := by
  have hc := h.pop_ch.resolve_left hp
  obtain ⟨e, T, eT⟩ := List.exists_cons_of_ne_nil hp
  have hh := drop_head _ _ e T (show (stk L i C).dropWhile (notUp L i) = e :: T from eT)
  have hu : (e : Int) = (rd_T74 L (i : Int)).f0 := by
    have := hh.1
    unfold notUp at this
    simpa using this
  refine ⟨?_, rfl, fun x hx => ?_, fun x hx => h.stk_el x (h.pop_in x hx), by omega⟩
  · rw [eT] at hc ⊢
    exact ⟨hi, hu.symm, hc⟩
  · rcases List.mem_cons.1 hx with e1 | e1
    · omega
    · have := h.lt x (h.stk_in x (h.pop_in x e1)); omega
theorem walk_hit (L : List S74) (hL : L.length ≤ 200) (s x4 u : Int) (v w : ByteArray) (z : List S76) (r : Bool) (hr : Ev (fun k => spec_DocOk.j6 k L s x4 u v w z) r) : ∀ C, Ch L C → ∀ e ∈ C, (e : Int) = u → ∀ a, C.head? = some a → Ev (fun k => spec_DocOk.l2 k L s x4 (a : Int) u v w z) r
  | [], h, _, _, _, _, _ => h.elim
  | [j], h, e, he, eu, a, ha => by
    simp only [List.head?_cons, Option.some.injEq] at ha
    rw [List.mem_singleton] at he
    subst ha he
    refine Ev.step (fun k => ?_) hr
    simp only [spec_DocOk.l2]
    rw [if_pos (by omega), if_pos eu, if_neg (by omega)]
  | j :: b :: C, h, e, he, eu, a, ha => by
    simp only [List.head?_cons, Option.some.injEq] at ha
    subst ha
    by_cases c : (j : Int) = u
    · refine Ev.step (fun k => ?_) hr
      simp only [spec_DocOk.l2]
      rw [if_pos (by omega), if_pos c, if_neg (by omega)]
    · have he2 : e ∈ b :: C := by
        rcases List.mem_cons.1 he with e1 | e1
        · rw [e1] at eu; exact absurd eu c
        · exact e1
      refine Ev.step (fun k => ?_) (walk_hit L hL s x4 u v w z r hr (b :: C) h.2.2 e he2 eu b rfl)
      simp only [spec_DocOk.l2]
      rw [if_pos (by omega), if_neg c, if_pos (by omega), if_pos (by have := h.1; omega), h.2.1]
theorem walk_miss (L : List S74) (hL : L.length ≤ 200) (s x4 u : Int) (v w : ByteArray) (z : List S76) : ∀ C, Ch L C → (∀ e ∈ C, ¬ (e : Int) = u) → ∀ a, C.head? = some a → Ev (fun k => spec_DocOk.l2 k L s x4 (a : Int) u v w z) false
  | [], h, _, _, _ => h.elim
  | [j], h, hn, a, ha => by
    simp only [List.head?_cons, Option.some.injEq] at ha
    subst ha
    refine Ev.step (f := fun k => spec_DocOk.l2 k L s x4 (-1) u v w z) (fun k => ?_) (Ev.later fun k => ?_)
    · simp only [spec_DocOk.l2]
      rw [if_pos (by omega), if_neg (hn j (List.mem_cons_self ..)), if_pos (by omega), if_pos (by have := h.1; omega), h.2]
    · simp only [spec_DocOk.l2]
      rw [if_neg (by omega), if_pos (by omega)]
  | j :: b :: C, h, hn, a, ha => by
    simp only [List.head?_cons, Option.some.injEq] at ha
    subst ha
    refine Ev.step (fun k => ?_) (walk_miss L hL s x4 u v w z (b :: C) h.2.2 (fun e he => hn e (List.mem_cons_of_mem _ he)) b rfl)
    simp only [spec_DocOk.l2]
    rw [if_pos (by omega), if_neg (hn j (List.mem_cons_self ..)), if_pos (by omega), if_pos (by have := h.1; omega), h.2.1]
theorem deep_ev (L : List S74) (hL : L.length ≤ 200) : ∀ C, Ch L C → ∀ a, C.head? = some a → ∀ n : Int, 0 ≤ n → n + C.length ≤ 1000 → Ev (fun k => spec_l2Deep.l0 k L (a : Int) n) (n + C.length - 1)
  | [], h, _, _, _, _, _ => h.elim
  | [j], h, a, ha, n, _, _ => by
    simp only [List.head?_cons, Option.some.injEq] at ha
    subst ha
    refine Ev.later fun k => ?_
    simp only [spec_l2Deep.l0]
    rw [if_pos (by omega), if_pos (by have := h.1; omega), h.2, if_neg (by omega)]
    congr 1
    simp
  | j :: b :: C, h, a, ha, n, h0, h1 => by
    simp only [List.head?_cons, Option.some.injEq] at ha
    subst ha
    have hj := h.1
    have h1' : n + 1 + ((b :: C).length : Int) ≤ 1000 := by simp only [List.length_cons] at h1 ⊢; omega
    have ih := deep_ev L hL (b :: C) h.2.2 b rfl (n + 1) (by omega) h1'
    rw [show n + ((j :: b :: C).length : Int) - 1 = n + 1 + ((b :: C).length : Int) - 1 by simp only [List.length_cons]; omega]
    refine Ev.step (fun k => ?_) ih
    simp only [spec_l2Deep.l0]
    rw [if_pos (by omega), if_pos (by omega), h.2.1, if_pos (by omega), w64 (by omega) (by omega)]
def St (S : List Nat) : List Int := S.reverse.map fun e : Nat => (e : Int)
theorem St_cons (e : Nat) (S : List Nat) : St (e :: S) = St S ++ [(e : Int)] := by simp [St]
theorem St_length (S : List Nat) : (St S).length = S.length := by simp [St]
theorem St_last (e : Nat) (S : List Nat) : rd (St (e :: S)) ((S.length : Nat) : Int) = (e : Int) := by
  rw [St_cons]
  unfold rd
  rw [List.getD_eq_getElem?_getD, Int.toNat_natCast, List.getElem?_append_right (by rw [St_length]; exact Nat.le_refl _), St_length]
  simp
theorem St_take (e : Nat) (S : List Nat) : (St (e :: S)).take S.length = St S := by
  rw [St_cons, List.take_append_of_le_length (by rw [St_length]; exact Nat.le_refl _), List.take_of_length_le (by rw [St_length]; exact Nat.le_refl _)]
theorem pop_ev (L : List S74) (s : Int) (i : Nat) (M : List S74) (n m : Int) (v w : ByteArray) (z : List S76) (r : Bool) : ∀ S : List Nat, S.length ≤ 1000 → Ev (fun k => impl_DocOk.j3 k L s (St (S.dropWhile (notUp L i))) (i : Int) M n m (rd_T74 L (i : Int)).f0 v w z) r → Ev (fun k => impl_DocOk.l1 k L s (St S) (i : Int) M n m (rd_T74 L (i : Int)).f0 v w z) r
  | [], _, hr => by
    refine Ev.step (fun k => ?_) hr
    simp only [impl_DocOk.l1]
    rw [if_neg (by simp [St])]
    rfl
  | e :: S, hl, hr => by
    simp only [List.length_cons] at hl
    have e1 : ((St (e :: S)).length : Int) = (S.length : Int) + 1 := by rw [St_length]; simp
    have e2 : wrap64 (((St (e :: S)).length : Int) - 1) = (S.length : Int) := by rw [e1, w64 (by omega) (by omega)]; omega
    rw [List.dropWhile_cons] at hr
    by_cases c : (e : Int) = (rd_T74 L (i : Int)).f0
    · rw [if_neg (by unfold notUp; simp [c])] at hr
      refine Ev.step (fun k => ?_) hr
      simp only [impl_DocOk.l1]
      rw [e2, if_pos (by omega), if_pos (by omega), if_pos (by omega), St_last, if_pos c]
    · rw [if_pos (by unfold notUp; exact decide_eq_true c)] at hr
      refine Ev.step (fun k => ?_) (pop_ev L s i M n m v w z r S (by omega) hr)
      simp only [impl_DocOk.l1]
      rw [e2, if_pos (by omega), if_pos (by omega), if_pos (by omega), St_last, if_neg c, if_pos (by omega), Int.toNat_natCast, St_take]
def smallL (L : List S74) : Prop := L.length ≤ 200 ∧ (∀ x ∈ L, smallI x) ∧ wIs L ≤ 1048576
theorem wIs_drop (l : List S74) (n : Nat) (h : n < l.length) : wIs (l.drop n) = wI l[n] + wIs (l.drop (n + 1)) := by rw [List.drop_eq_getElem_cons h, wIs_cons]
theorem wIs_le (l : List S74) : ∀ n, wIs (l.drop n) ≤ wIs l
  | 0 => by rw [List.drop_zero]; exact Nat.le_refl _
  | n + 1 => by
    have := wIs_le l n
    by_cases h : n < l.length
    · have := wIs_drop l n h; omega
    · rw [List.drop_eq_nil_of_le (by omega)]; simp [wIs]
theorem impl_Doc_l0_ev (L : List S74) (hL : smallL L) : ∀ d i C (s : Int), i + d = L.length → Inv L i C → C.length ≤ 21 → 0 ≤ s → s + wIs (L.drop i) ≤ 2000000 → Ev (fun k => impl_DocOk.l0 k L s (St (stk L i C)) L (L.length : Int) (i : Int)) (docR L d i C s) := by
  have h200 := hL.1
  intro d
  induction d with
  | zero =>
    intro i C s hi _ _ _ _
    refine Ev.later fun k => ?_
    simp only [impl_DocOk.l0]
    rw [if_neg (cast_nlt (by omega))]
    rfl
  | succ d ih =>
    intro i C s hi hI hC h0 hs
    have hi2 : i < L.length := by omega
    have e : rd_T74 L (i : Int) = L[i] := getII L i hi2
    have hx : smallI (rd_T74 L (i : Int)) := by rw [e]; exact hL.2.1 _ (List.getElem_mem _)
    have hw : wIs (L.drop i) = wI (rd_T74 L (i : Int)) + wIs (L.drop (i + 1)) := by rw [e]; exact wIs_drop L i hi2
    have hw1 : wI (rd_T74 L (i : Int)) = (rd_T74 L (i : Int)).f1.size + (rd_T74 L (i : Int)).f2.size + (rd_T74 L (i : Int)).f3.length + wAs (rd_T74 L (i : Int)).f3 := rfl
    have hw2 : wB (rd_T74 L (i : Int)) = (rd_T74 L (i : Int)).f1.size + (rd_T74 L (i : Int)).f2.size + wAs (rd_T74 L (i : Int)).f3 := rfl
    have hpos := hI.pos
    have hp1 : wrap64 ((i : Int) - 1) = ((i - 1 : Nat) : Int) := by rw [w64 (by omega) (by omega)]; omega
    rw [docR]
    have step : ∀ k, impl_DocOk.l0 (k + 1) L s (St (stk L i C)) L (L.length : Int) (i : Int) = (impl_Item_isGood.f k (rd_T74 L (i : Int)).f0 (rd_T74 L (i : Int)).f1 (rd_T74 L (i : Int)).f2 (rd_T74 L (i : Int)).f3).bind fun t233 => (if t233 = true then ((impl_Item_bytes.f k (rd_T74 L (i : Int)).f0 (rd_T74 L (i : Int)).f1 (rd_T74 L (i : Int)).f2 (rd_T74 L (i : Int)).f3).bind fun t234 => (impl_DocOk.l1 k L (wrap64 (s + t234)) (St (stk L i C)) (i : Int) L (L.length : Int) (i : Int) (rd_T74 L (i : Int)).f0 (rd_T74 L (i : Int)).f1 (rd_T74 L (i : Int)).f2 (rd_T74 L (i : Int)).f3)) else (some false)) := fun k => by
      simp only [impl_DocOk.l0]
      rw [if_pos (cast_lt hi2), if_pos (by omega), if_pos (cast_lt hi2)]
    refine Ev.step step (Ev.bind (impl_isGood_ev _ hx) ?_)
    cases goodI (rd_T74 L (i : Int)) with
    | false => simp only [Bool.false_eq_true, if_false, Bool.false_and]; exact Ev.now _
    | true =>
      simp only [if_true, Bool.true_and]
      refine Ev.bind (impl_bytes_ev _ (by omega)) ?_
      rw [w64 (x := s + (wB (rd_T74 L (i : Int)) : Int)) (by omega) (by omega)]
      have hsl : (stk L i C).length ≤ 1000 := by
        unfold stk
        split
        · rw [List.length_tail]; omega
        · omega
      refine pop_ev L _ i L _ _ _ _ _ _ (stk L i C) hsl ?_
      show Ev (fun k => impl_DocOk.j3 k L (s + (wB (rd_T74 L (i : Int)) : Int)) (St (pop L i C)) (i : Int) L (L.length : Int) (i : Int) (rd_T74 L (i : Int)).f0 (rd_T74 L (i : Int)).f1 (rd_T74 L (i : Int)).f2 (rd_T74 L (i : Int)).f3) _
      have bad : Ev (fun k => impl_DocOk.j4 k L (s + (wB (rd_T74 L (i : Int)) : Int)) (St (pop L i C)) (i : Int) L (L.length : Int) (i : Int) true (rd_T74 L (i : Int)).f0 (rd_T74 L (i : Int)).f1 (rd_T74 L (i : Int)).f2 (rd_T74 L (i : Int)).f3) false := Ev.later fun k => by simp only [impl_DocOk.j4, if_true]
      unfold linkB
      by_cases hp : pop L i C = []
      · rw [decide_eq_false (show ¬ ¬ pop L i C = [] from fun h => h hp), Bool.false_and, Bool.false_and]
        refine Ev.step (fun k => ?_) bad
        simp only [impl_DocOk.j3]
        rw [if_pos (by omega), if_pos (by rw [hp]; rfl)]
      · rw [decide_eq_true hp, Bool.true_and]
        have hne : ¬ ((St (pop L i C)).length : Int) = 0 := by
          rw [St_length]
          have := List.length_pos_iff.2 hp
          omega
        have j3 : ∀ r, Ev (fun k => impl_DocOk.j4 k L (s + (wB (rd_T74 L (i : Int)) : Int)) (St (pop L i C)) (i : Int) L (L.length : Int) (i : Int) (decide (((St (pop L i C)).length : Int) ≥ 20)) (rd_T74 L (i : Int)).f0 (rd_T74 L (i : Int)).f1 (rd_T74 L (i : Int)).f2 (rd_T74 L (i : Int)).f3) r → Ev (fun k => impl_DocOk.j3 k L (s + (wB (rd_T74 L (i : Int)) : Int)) (St (pop L i C)) (i : Int) L (L.length : Int) (i : Int) (rd_T74 L (i : Int)).f0 (rd_T74 L (i : Int)).f1 (rd_T74 L (i : Int)).f2 (rd_T74 L (i : Int)).f3) r := fun r h => by
          refine Ev.step (fun k => ?_) h
          simp only [impl_DocOk.j3]
          rw [if_pos (by omega), if_neg hne]
        refine j3 _ ?_
        rw [St_length]
        by_cases h20 : (pop L i C).length < 20
        · rw [decide_eq_true h20, Bool.true_and, decide_eq_false (by omega)]
          have hn := hI.next hi2 hp
          have hk := ih (i + 1) (i :: pop L i C) (s + (wB (rd_T74 L (i : Int)) : Int)) (by omega) hn (by simp only [List.length_cons]; omega) (by omega) (by omega)
          have hi1 : i + 1 - 1 = i := by omega
          by_cases ht : (rd_T74 L (i : Int)).f1.toList = []
          · have es : stk L (i + 1) (i :: pop L i C) = pop L i C := by unfold stk; rw [hi1, if_pos ht]; rfl
            rw [es] at hk
            by_cases hprev : (rd_T74 L ((i - 1 : Nat) : Int)).f1.toList = []
            · by_cases hup : (rd_T74 L ((i - 1 : Nat) : Int)).f0 = (rd_T74 L (i : Int)).f0
              · rw [decide_eq_false (show ¬ ¬ twin L i from fun h => h ⟨ht, hprev, hup⟩), Bool.false_and]
                refine Ev.later fun k => ?_
                simp only [impl_DocOk.j4, Bool.false_eq_true, if_false]
                rw [if_pos ht, if_pos (by omega), hp1, if_pos (by omega), if_pos (by omega), if_pos hprev, if_pos hup]
              · rw [decide_eq_true (show ¬ twin L i from fun h => hup h.2.2), Bool.true_and]
                refine Ev.step (fun k => ?_) hk
                simp only [impl_DocOk.j4, Bool.false_eq_true, if_false]
                rw [if_pos ht, if_pos (by omega), hp1, if_pos (by omega), if_pos (by omega), if_pos hprev, if_neg hup, wrap_succ (n := L.length) (by omega) (cast_lt hi2) (by omega)]
                rfl
            · rw [decide_eq_true (show ¬ twin L i from fun h => hprev h.2.1), Bool.true_and]
              refine Ev.step (fun k => ?_) hk
              simp only [impl_DocOk.j4, Bool.false_eq_true, if_false]
              rw [if_pos ht, if_pos (by omega), hp1, if_pos (by omega), if_pos (by omega), if_neg hprev, wrap_succ (n := L.length) (by omega) (cast_lt hi2) (by omega)]
              rfl
          · have es : stk L (i + 1) (i :: pop L i C) = i :: pop L i C := by unfold stk; rw [hi1, if_neg ht]
            rw [es, St_cons] at hk
            rw [decide_eq_true (show ¬ twin L i from fun h => ht h.1), Bool.true_and]
            refine Ev.step (fun k => ?_) hk
            simp only [impl_DocOk.j4, Bool.false_eq_true, if_false]
            rw [if_neg ht, if_pos (by rw [St_length]; omega), wrap_succ (n := L.length) (by omega) (cast_lt hi2) (by omega)]
            rfl
        · rw [decide_eq_false h20, Bool.false_and, Bool.false_and, decide_eq_true (by omega)]
          exact bad
theorem wAs_take (l : List S76) : ∀ n, wAs (l.take n) ≤ wAs l := by
  induction l with
  | nil => intro n; simp [wAs]
  | cons a l ih =>
    intro n
    cases n with
    | zero => simp [wAs]
    | succ n =>
      have := ih n
      rw [List.take_succ_cons, wAs_cons, wAs_cons]
      omega
theorem spec_Doc_l1_ev (L : List S74) (i u : Int) (v w : ByteArray) (z : List S76) (hz : z.length ≤ 2000000) (r : Bool) : ∀ d n (s : Int), n + d = (z.take 20).length → 0 ≤ s → s + wAs ((z.take 20).drop n) ≤ 10000000 → Ev (fun k => spec_DocOk.j3 k L (s + wAs ((z.take 20).drop n)) i u v w z) r → Ev (fun k => spec_DocOk.l1 k L s i (n : Int) u v w z) r := by
  intro d
  induction d with
  | zero =>
    intro n s hn h0 h1 hr
    rw [List.drop_eq_nil_of_le (by omega)] at hr
    have hr : Ev (fun k => spec_DocOk.j3 k L s i u v w z) r := by simpa [wAs] using hr
    refine Ev.step (fun k => ?_) hr
    simp only [spec_DocOk.l1]
    rw [List.length_take] at hn
    by_cases c : (n : Int) < (z.length : Int)
    · rw [if_pos c, if_neg (by omega)]
    · rw [if_neg c]
  | succ d ih =>
    intro n s hn h0 h1 hr
    have hn2 : n < (z.take 20).length := by omega
    have hl : (z.take 20).length = min 20 z.length := List.length_take
    have hn3 : n < z.length := by omega
    have e : rd_T76 z (n : Int) = z[n] := getIA z n hn3
    have ew := wAs_drop (z.take 20) n hn2
    rw [List.getElem_take] at ew
    have hA : wA z[n] = z[n].f0.size + z[n].f1.size := rfl
    rw [ew] at h1
    rw [ew, show s + ((wA z[n] + wAs ((z.take 20).drop (n + 1)) : Nat) : Int) = s + wA z[n] + wAs ((z.take 20).drop (n + 1)) by omega] at hr
    have h := ih (n + 1) (s + wA z[n]) (by omega) (by omega) (by omega) hr
    refine Ev.step (fun k => ?_) h
    simp only [spec_DocOk.l1]
    rw [if_pos (cast_lt hn3), if_pos (by omega), if_pos (by omega), e, wrap_succ (n := z.length) (by omega) (cast_lt hn3) (by omega), w64 (x := s + (z[n].f0.size : Int)) (by omega) (by omega), w64 (x := s + (z[n].f0.size : Int) + (z[n].f1.size : Int)) (by omega) (by omega), show s + (z[n].f0.size : Int) + (z[n].f1.size : Int) = s + wA z[n] by omega]
    rfl
def limB (x : S74) : Nat := x.f1.size + x.f2.size + wAs (x.f3.take 20)
theorem lim_good (x : S74) (h : goodI x = true) : limB x = wB x := by
  unfold limB wB
  rw [List.take_of_length_le]
  unfold goodI at h
  split at h
  · simp only [Bool.and_eq_true, decide_eq_true_eq] at h
    omega
  · unfold attrsB at h
    simp only [Bool.and_eq_true, decide_eq_true_eq] at h
    omega
theorem spec_Doc_j6_ev (L : List S74) (hL : smallL L) (i : Nat) (hi : i < L.length) (hpos : 1 ≤ i) (s dp : Int) (hd : Ev (fun k => spec_l2Deep.f k L (i : Int)) dp) (r : Bool) (hr : dp < 20 → goodI (rd_T74 L (i : Int)) = true → ¬ twin L i → Ev (fun k => spec_DocOk.l0 k L s ((i + 1 : Nat) : Int)) r) :
    Ev (fun k => spec_DocOk.j6 k L s (i : Int) (rd_T74 L (i : Int)).f0 (rd_T74 L (i : Int)).f1 (rd_T74 L (i : Int)).f2 (rd_T74 L (i : Int)).f3) (decide (dp < 20) && (goodI (rd_T74 L (i : Int)) && (decide (¬ twin L i) && r))) := by
  have h200 := hL.1
  have e : rd_T74 L (i : Int) = L[i] := getII L i hi
  have hx : smallI (rd_T74 L (i : Int)) := by rw [e]; exact hL.2.1 _ (List.getElem_mem _)
  have hp1 : wrap64 ((i : Int) - 1) = ((i - 1 : Nat) : Int) := by rw [w64 (by omega) (by omega)]; omega
  have hz := hx.2.2.1
  refine Ev.step (f := fun k => (spec_l2Deep.f k L (i : Int)).bind fun t153 => (if t153 ≥ 20 then (some false) else (if (rd_T74 L (i : Int)).f1.toList = ([] : List UInt8) then (if (rd_T74 L (i : Int)).f2.toList = ([] : List UInt8) then (spec_DocOk.j7 k L s (i : Int) true (rd_T74 L (i : Int)).f0 (rd_T74 L (i : Int)).f1 (rd_T74 L (i : Int)).f2 (rd_T74 L (i : Int)).f3) else (if ((rd_T74 L (i : Int)).f3.length : Int) > 0 then (spec_DocOk.j7 k L s (i : Int) true (rd_T74 L (i : Int)).f0 (rd_T74 L (i : Int)).f1 (rd_T74 L (i : Int)).f2 (rd_T74 L (i : Int)).f3) else ((spec_l1Text.f k (rd_T74 L (i : Int)).f2).bind fun t154 => (spec_DocOk.j7 k L s (i : Int) (!t154) (rd_T74 L (i : Int)).f0 (rd_T74 L (i : Int)).f1 (rd_T74 L (i : Int)).f2 (rd_T74 L (i : Int)).f3)))) else (if (rd_T74 L (i : Int)).f2.toList = ([] : List UInt8) then ((spec_l1Qual.f k (rd_T74 L (i : Int)).f1).bind fun t157 => (if t157 = true then ((spec_l2Attrs.f k (rd_T74 L (i : Int)).f3).bind fun t158 => (if t158 = true then (spec_DocOk.l0 k L s (wrap64 ((i : Int) + 1))) else (some false))) else (some false))) else (some false))))) (fun k => by simp only [spec_DocOk.j6]) (Ev.bind hd ?_)
  · by_cases c20 : dp ≥ 20
    · simp only [c20, if_true]
      rw [decide_eq_false (by omega), Bool.false_and]
      exact Ev.now _
    simp only [c20, if_false]
    rw [decide_eq_true (show dp < 20 by omega), Bool.true_and]
    have j7 : ∀ b : Bool, (rd_T74 L (i : Int)).f1.toList = [] → (b = true → goodI (rd_T74 L (i : Int)) = true) → Ev (fun k => spec_DocOk.j7 k L s (i : Int) (!b) (rd_T74 L (i : Int)).f0 (rd_T74 L (i : Int)).f1 (rd_T74 L (i : Int)).f2 (rd_T74 L (i : Int)).f3) (b && (decide (¬ twin L i) && r)) := by
      intro b ht hgd
      cases b with
      | false => exact Ev.later fun k => by simp only [spec_DocOk.j7, Bool.not_false, if_true, Bool.false_and]
      | true =>
        rw [Bool.true_and]
        by_cases hprev : (rd_T74 L ((i - 1 : Nat) : Int)).f1.toList = []
        · by_cases hup : (rd_T74 L ((i - 1 : Nat) : Int)).f0 = (rd_T74 L (i : Int)).f0
          · rw [decide_eq_false (show ¬ ¬ twin L i from fun h => h ⟨ht, hprev, hup⟩), Bool.false_and]
            refine Ev.later fun k => ?_
            simp only [spec_DocOk.j7, Bool.not_true, Bool.false_eq_true, if_false]
            rw [hp1, if_pos (by omega), if_pos (by omega), if_pos hprev, if_pos hup]
          · rw [decide_eq_true (show ¬ twin L i from fun h => hup h.2.2), Bool.true_and]
            refine Ev.step (fun k => ?_) (hr (by omega) (hgd rfl) (fun h => hup h.2.2))
            simp only [spec_DocOk.j7, Bool.not_true, Bool.false_eq_true, if_false]
            rw [hp1, if_pos (by omega), if_pos (by omega), if_pos hprev, if_neg hup, wrap_succ (n := L.length) (by omega) (cast_lt hi) (by omega)]
            rfl
        · rw [decide_eq_true (show ¬ twin L i from fun h => hprev h.2.1), Bool.true_and]
          refine Ev.step (fun k => ?_) (hr (by omega) (hgd rfl) (fun h => hprev h.2.1))
          simp only [spec_DocOk.j7, Bool.not_true, Bool.false_eq_true, if_false]
          rw [hp1, if_pos (by omega), if_pos (by omega), if_neg hprev, wrap_succ (n := L.length) (by omega) (cast_lt hi) (by omega)]
          rfl
    have hgu : goodI (rd_T74 L (i : Int)) = (if (rd_T74 L (i : Int)).f1.toList = [] then (decide (¬ (rd_T74 L (i : Int)).f2.toList = []) && (textB (rd_T74 L (i : Int)).f2 && decide ((rd_T74 L (i : Int)).f3.length = 0))) else (qualB (rd_T74 L (i : Int)).f1 && (decide ((rd_T74 L (i : Int)).f2.toList = []) && attrsB (rd_T74 L (i : Int)).f3))) := rfl
    have hgl := hgu
    rw [hgu]
    by_cases ht : (rd_T74 L (i : Int)).f1.toList = []
    · simp only [ht, if_true]
      by_cases hw : (rd_T74 L (i : Int)).f2.toList = []
      · simp only [hw, if_true, not_true, decide_false, Bool.false_and]
        have := j7 false ht (fun h => by cases h)
        simpa using this
      · simp only [hw, if_false, not_false_eq_true, decide_true, Bool.true_and]
        by_cases hl : ((rd_T74 L (i : Int)).f3.length : Int) > 0
        · simp only [hl, if_true]
          rw [decide_eq_false (show ¬ (rd_T74 L (i : Int)).f3.length = 0 by omega), Bool.and_false, Bool.false_and]
          have := j7 false ht (fun h => by cases h)
          simpa using this
        · simp only [hl, if_false]
          rw [decide_eq_true (show (rd_T74 L (i : Int)).f3.length = 0 by omega), Bool.and_true]
          exact Ev.bind (spec_l1Text_ev _) (j7 _ ht (fun hb => by rw [hgl, if_pos ht, decide_eq_true hw, hb, decide_eq_true (show (rd_T74 L (i : Int)).f3.length = 0 by omega)]; rfl))
    · have htw : decide (¬ twin L i) = true := decide_eq_true (fun h => ht h.1)
      simp only [ht, if_false]
      rw [htw, Bool.true_and]
      by_cases hw : (rd_T74 L (i : Int)).f2.toList = []
      · simp only [hw, if_true, decide_true, Bool.true_and]
        have hq := spec_l1Qual_ev (rd_T74 L (i : Int)).f1 (by have := hx.1; omega)
        refine Ev.bind hq ?_
        cases hqb : qualB (rd_T74 L (i : Int)).f1 with
        | false => simp only [Bool.false_eq_true, if_false, Bool.false_and]; exact Ev.now _
        | true =>
          simp only [if_true, Bool.true_and]
          refine Ev.bind (spec_Attrs_ev _ hx.2.2) ?_
          cases hab : attrsB (rd_T74 L (i : Int)).f3 with
          | false => simp only [Bool.false_eq_true, if_false, Bool.false_and]; exact Ev.now _
          | true =>
            simp only [if_true, Bool.true_and]
            rw [wrap_succ (n := L.length) (by omega) (cast_lt hi) (by omega)]
            exact hr (by omega) (by rw [hgl, if_neg ht, hqb, decide_eq_true hw, hab]; rfl) (fun h => ht h.1)
      · simp only [hw, if_false, decide_false, Bool.false_and, Bool.and_false]
        exact Ev.now _
theorem Ev.of_eq_ {α : Type} {g : Nat → Option α} {a b : α} (h : Ev g a) (e : a = b) : Ev g b := e ▸ h
theorem spec_Doc_l0_ev (L : List S74) (hL : smallL L) : ∀ d i C (s : Int), i + d = L.length → Inv L i C → C.length ≤ 21 → 0 ≤ s → s ≤ 2500 → Ev (fun k => spec_DocOk.l0 k L s (i : Int)) (docR L d i C s) := by
  have h200 := hL.1
  intro d
  induction d with
  | zero =>
    intro i C s hi _ _ _ hs
    refine Ev.later fun k => ?_
    simp only [spec_DocOk.l0]
    rw [if_neg (cast_nlt (by omega)), docR, decide_eq_true hs]
  | succ d ih =>
    intro i C s hi hI hC h0 hs
    have hi2 : i < L.length := by omega
    have e : rd_T74 L (i : Int) = L[i] := getII L i hi2
    have hx : smallI (rd_T74 L (i : Int)) := by rw [e]; exact hL.2.1 _ (List.getElem_mem _)
    have hwx : wI (rd_T74 L (i : Int)) ≤ 1048576 := by
      have h1 := wIs_drop L i hi2
      have h2 := wIs_le L i
      have h3 := hL.2.2
      rw [e]
      omega
    have hw1 : wI (rd_T74 L (i : Int)) = (rd_T74 L (i : Int)).f1.size + (rd_T74 L (i : Int)).f2.size + (rd_T74 L (i : Int)).f3.length + wAs (rd_T74 L (i : Int)).f3 := rfl
    have hlim : limB (rd_T74 L (i : Int)) = (rd_T74 L (i : Int)).f1.size + (rd_T74 L (i : Int)).f2.size + wAs ((rd_T74 L (i : Int)).f3.take 20) := rfl
    have htk := wAs_take (rd_T74 L (i : Int)).f3 20
    have hpos := hI.pos
    have hp1 : wrap64 ((i : Int) - 1) = ((i - 1 : Nat) : Int) := by rw [w64 (by omega) (by omega)]; omega
    rw [docR]
    refine Ev.step (f := fun k => spec_DocOk.l1 k L (s + (rd_T74 L (i : Int)).f1.size + (rd_T74 L (i : Int)).f2.size) (i : Int) ((0 : Nat) : Int) (rd_T74 L (i : Int)).f0 (rd_T74 L (i : Int)).f1 (rd_T74 L (i : Int)).f2 (rd_T74 L (i : Int)).f3) (fun k => ?_) ?_
    · simp only [spec_DocOk.l0]
      rw [if_pos (cast_lt hi2), if_pos (by omega), w64 (x := s + ((rd_T74 L (i : Int)).f1.size : Int)) (by omega) (by omega), w64 (by omega) (by omega)]
      rfl
    refine spec_Doc_l1_ev L _ _ _ _ _ (by omega) _ _ 0 _ (Nat.zero_add _) (by omega) (by rw [List.drop_zero]; omega) ?_
    rw [List.drop_zero, show s + ((rd_T74 L (i : Int)).f1.size : Int) + ((rd_T74 L (i : Int)).f2.size : Int) + (wAs ((rd_T74 L (i : Int)).f3.take 20) : Int) = s + (limB (rd_T74 L (i : Int)) : Int) by omega]
    have bad : ∀ (g : Nat → Option Bool), (∀ k, g (k + 1) = some false) → Ev g false := fun g h => Ev.later h
    by_cases cbig : s + (limB (rd_T74 L (i : Int)) : Int) > 2500
    · have hf : (goodI (rd_T74 L (i : Int)) && (linkB L i C && docR L d (i + 1) (i :: pop L i C) (s + (wB (rd_T74 L (i : Int)) : Int)))) = false := by
        cases hg : goodI (rd_T74 L (i : Int)) with
        | false => rfl
        | true =>
          rw [lim_good _ hg] at cbig
          rw [docR_big L d _ _ _ (by omega)]
          simp
      rw [hf]
      refine Ev.later fun k => ?_
      simp only [spec_DocOk.j3]
      rw [if_pos cbig]
    have up : ∀ r, (Ev (fun k => (spec_l1In.f (rd_T74 L (i : Int)).f0 0 ((i - 1 : Nat) : Int)).bind fun t150 => (if t150 = true then (if 0 ≤ (rd_T74 L (i : Int)).f0 then (if (rd_T74 L (i : Int)).f0 < (L.length : Int) then (if (rd_T74 L (rd_T74 L (i : Int)).f0).f1.toList = ([] : List UInt8) then (some false) else (spec_DocOk.j4 k L (s + (limB (rd_T74 L (i : Int)) : Int)) (i : Int) (rd_T74 L (i : Int)).f0 (rd_T74 L (i : Int)).f1 (rd_T74 L (i : Int)).f2 (rd_T74 L (i : Int)).f3)) else (none)) else (none)) else (some false))) r) → Ev (fun k => spec_DocOk.j3 k L (s + (limB (rd_T74 L (i : Int)) : Int)) (i : Int) (rd_T74 L (i : Int)).f0 (rd_T74 L (i : Int)).f1 (rd_T74 L (i : Int)).f2 (rd_T74 L (i : Int)).f3) r := fun r h => by
      refine Ev.step (fun k => ?_) h
      simp only [spec_DocOk.j3]
      rw [if_neg cbig, if_neg (by omega), hp1]
    refine up _ ?_
    simp only [spec_l1In_eq, Option.bind_some, inR]
    have j4 : ∀ r, Ev (fun k => spec_DocOk.l2 k L (s + (limB (rd_T74 L (i : Int)) : Int)) (i : Int) ((i - 1 : Nat) : Int) (rd_T74 L (i : Int)).f0 (rd_T74 L (i : Int)).f1 (rd_T74 L (i : Int)).f2 (rd_T74 L (i : Int)).f3) r → Ev (fun k => spec_DocOk.j4 k L (s + (limB (rd_T74 L (i : Int)) : Int)) (i : Int) (rd_T74 L (i : Int)).f0 (rd_T74 L (i : Int)).f1 (rd_T74 L (i : Int)).f2 (rd_T74 L (i : Int)).f3) r := fun r h => by
      refine Ev.step (fun k => ?_) h
      simp only [spec_DocOk.j4]
      rw [if_pos (by omega), hp1]
    by_cases hp : pop L i C = []
    · have hf : (goodI (rd_T74 L (i : Int)) && (linkB L i C && docR L d (i + 1) (i :: pop L i C) (s + (wB (rd_T74 L (i : Int)) : Int)))) = false := by
        unfold linkB
        rw [decide_eq_false (show ¬ ¬ pop L i C = [] from fun h => h hp)]
        simp
      rw [hf]
      by_cases cin : 0 ≤ (rd_T74 L (i : Int)).f0 ∧ (rd_T74 L (i : Int)).f0 ≤ ((i - 1 : Nat) : Int)
      · have q1 := cin.1
        have q2 : (rd_T74 L (i : Int)).f0 < (L.length : Int) := by omega
        have cind := decide_eq_true cin
        simp only [cind, if_true]
        simp only [q1, q2, if_true]
        by_cases cn : (rd_T74 L (rd_T74 L (i : Int)).f0).f1.toList = []
        · simp only [cn, if_true]; exact Ev.now _
        · simp only [cn, if_false]
          refine j4 _ (walk_miss L h200 _ _ _ _ _ _ C hI.ch (fun a ha hu => ?_) (i - 1) hI.hd)
          rw [← hu] at cn
          have hs2 := hI.in_stk a ha cn
          have := drop_none _ _ hp a hs2
          unfold notUp at this
          simp only [decide_eq_true_eq] at this
          exact this hu
      · simp only [decide_eq_false cin, Bool.false_eq_true, if_false]
        exact Ev.now _
    · have hc := hI.pop_ch.resolve_left hp
      obtain ⟨a, T, eT⟩ := List.exists_cons_of_ne_nil hp
      have hh := drop_head _ _ a T (show (stk L i C).dropWhile (notUp L i) = a :: T from eT)
      have hu : (a : Int) = (rd_T74 L (i : Int)).f0 := by
        have := hh.1
        unfold notUp at this
        simpa using this
      have haC := hI.stk_in a hh.2.1
      have hlt := hI.lt a haC
      have hel := hI.stk_el a hh.2.1
      have cin : 0 ≤ (rd_T74 L (i : Int)).f0 ∧ (rd_T74 L (i : Int)).f0 ≤ ((i - 1 : Nat) : Int) := by omega
      have q1 := cin.1
      have q2 : (rd_T74 L (i : Int)).f0 < (L.length : Int) := by omega
      rw [hu] at hel
      have cind := decide_eq_true cin
      simp only [cind, if_true]
      simp only [q1, q2, hel, if_true, if_false]
      have hsl : (stk L i C).length ≤ 21 := by
        unfold stk
        split
        · rw [List.length_tail]; omega
        · exact hC
      have hpl : (pop L i C).length ≤ 21 := by rw [eT]; have := hh.2.2.2; omega
      have hdeep : Ev (fun k => spec_l2Deep.f k L (i : Int)) ((pop L i C).length : Int) := by
        unfold spec_l2Deep.f
        have h1 := deep_ev L h200 (pop L i C) hc a (by rw [eT]; rfl) 1 (by omega) (by omega)
        rw [show (1 : Int) + ((pop L i C).length : Int) - 1 = ((pop L i C).length : Int) by omega, hu] at h1
        refine Ev.step (fun k => ?_) h1
        simp only [spec_l2Deep.l0]
        rw [if_pos (by omega), if_pos (cast_lt hi2), if_pos q1, w64 (x := 0 + 1) (by omega) (by omega)]
        rfl
      refine Ev.of_eq_ (j4 _ (walk_hit L h200 _ _ _ _ _ _ (docR L d (i + 1) (i :: pop L i C) (s + (wB (rd_T74 L (i : Int)) : Int)) |> fun r => decide (((pop L i C).length : Int) < 20) && (goodI (rd_T74 L (i : Int)) && (decide (¬ twin L i) && r))) (spec_Doc_j6_ev L hL i hi2 hpos _ _ hdeep _ (fun h20 hg _ => ?_)) C hI.ch a haC hu (i - 1) hI.hd)) ?_
      · have hn := hI.next hi2 hp
        have hl := lim_good _ hg
        rw [← hl]
        exact ih (i + 1) (i :: pop L i C) (s + (limB (rd_T74 L (i : Int)) : Int)) (by omega) hn (by simp only [List.length_cons]; omega) (by omega) (by omega)
      · unfold linkB
        rw [decide_eq_true hp, Bool.true_and, show decide ((pop L i C).length < 20) = decide (((pop L i C).length : Int) < 20) from by
          by_cases q : (pop L i C).length < 20
          · rw [decide_eq_true q, decide_eq_true (show ((pop L i C).length : Int) < 20 by omega)]
          · rw [decide_eq_false q, decide_eq_false (show ¬ ((pop L i C).length : Int) < 20 by omega)]]
        cases goodI (rd_T74 L (i : Int)) <;> cases decide (((pop L i C).length : Int) < 20) <;> rfl
def docB (L : List S74) : Bool := (decide (1 ≤ L.length) && decide (L.length ≤ 200)) && ((decide ((rd_T74 L 0).f0 = -1) && decide (¬ (rd_T74 L 0).f1.toList = [])) && (goodI (rd_T74 L 0) && docR L (L.length - 1) 1 [0] (wB (rd_T74 L 0))))
theorem start_inv (L : List S74) (h : 1 ≤ L.length) (hu : (rd_T74 L 0).f0 = -1) (hn : ¬ (rd_T74 L 0).f1.toList = []) : Inv L 1 [0] := ⟨⟨by omega, hu⟩, rfl, fun e he => by rw [List.mem_singleton] at he; omega, fun e he => by simp at he, by omega⟩
theorem spec_DocOk_ev (L : List S74) (hs : L.length ≤ 1048576) (hx : ∀ x ∈ L, smallI x) (hw : wIs L ≤ 1048576) : Ev (fun k => spec_DocOk.f k L) (docB L) := by
  unfold spec_DocOk.f docB
  have bad : Ev (fun k => spec_DocOk.j0 k L true) false := Ev.later fun k => by simp only [spec_DocOk.j0, if_true]
  by_cases c1 : (L.length : Int) < 1
  · simp only [c1, if_true]
    rw [decide_eq_false (show ¬ 1 ≤ L.length by omega), Bool.false_and, Bool.false_and]
    exact bad
  simp only [c1, if_false]
  rw [decide_eq_true (show 1 ≤ L.length by omega), Bool.true_and]
  by_cases c2 : (L.length : Int) > 200
  · rw [decide_eq_true c2, decide_eq_false (show ¬ L.length ≤ 200 by omega), Bool.false_and]
    exact bad
  rw [decide_eq_false c2, decide_eq_true (show L.length ≤ 200 by omega), Bool.true_and]
  have hL : smallL L := ⟨by omega, hx, hw⟩
  have h1 : 1 ≤ L.length := by omega
  have e : rd_T74 L ((0 : Nat) : Int) = L[0] := getII L 0 h1
  have hx0 : smallI (rd_T74 L 0) := by have := hx _ (List.getElem_mem h1); rw [← e] at this; exact this
  have hwx : wI (rd_T74 L 0) ≤ 1048576 := by
    have q1 := wIs_drop L 0 h1
    have q2 := wIs_le L 0
    rw [← e] at q1
    have : wI (rd_T74 L ((0 : Nat) : Int)) ≤ 1048576 := by omega
    exact this
  have hw1 : wI (rd_T74 L 0) = (rd_T74 L 0).f1.size + (rd_T74 L 0).f2.size + (rd_T74 L 0).f3.length + wAs (rd_T74 L 0).f3 := rfl
  have hlim : limB (rd_T74 L 0) = (rd_T74 L 0).f1.size + (rd_T74 L 0).f2.size + wAs ((rd_T74 L 0).f3.take 20) := rfl
  have htk := wAs_take (rd_T74 L 0).f3 20
  refine Ev.step (f := fun k => spec_DocOk.l0 k L 0 0) (fun k => by simp only [spec_DocOk.j0, Bool.false_eq_true, if_false]) ?_
  refine Ev.step (f := fun k => spec_DocOk.l1 k L (((rd_T74 L 0).f1.size : Int) + (rd_T74 L 0).f2.size) 0 ((0 : Nat) : Int) (rd_T74 L 0).f0 (rd_T74 L 0).f1 (rd_T74 L 0).f2 (rd_T74 L 0).f3) (fun k => ?_) ?_
  · simp only [spec_DocOk.l0]
    rw [if_pos (by omega), if_pos (by omega), w64 (x := 0 + ((rd_T74 L 0).f1.size : Int)) (by omega) (by omega), w64 (by omega) (by omega), Int.zero_add]
    rfl
  refine spec_Doc_l1_ev L _ _ _ _ _ (by omega) _ _ 0 _ (Nat.zero_add _) (by omega) (by rw [List.drop_zero]; omega) ?_
  rw [List.drop_zero, show ((rd_T74 L 0).f1.size : Int) + ((rd_T74 L 0).f2.size : Int) + (wAs ((rd_T74 L 0).f3.take 20) : Int) = (limB (rd_T74 L 0) : Int) by omega]
  by_cases cbig : (limB (rd_T74 L 0) : Int) > 2500
  · have hf : ((decide ((rd_T74 L 0).f0 = -1) && decide (¬ (rd_T74 L 0).f1.toList = [])) && (goodI (rd_T74 L 0) && docR L (L.length - 1) 1 [0] (wB (rd_T74 L 0)))) = false := by
      cases hg : goodI (rd_T74 L 0) with
      | false => simp
      | true =>
        rw [lim_good _ hg] at cbig
        rw [docR_big L _ _ _ _ (by omega)]
        simp
    rw [hf]
    refine Ev.later fun k => ?_
    simp only [spec_DocOk.j3]
    rw [if_pos cbig]
  by_cases cu : (rd_T74 L 0).f0 = -1
  · rw [decide_eq_true cu, Bool.true_and]
    by_cases cn : (rd_T74 L 0).f1.toList = []
    · rw [decide_eq_false (show ¬ ¬ (rd_T74 L 0).f1.toList = [] from fun h => h cn), Bool.false_and]
      refine Ev.later fun k => ?_
      simp only [spec_DocOk.j3]
      rw [if_neg cbig, if_pos trivial, if_pos cu, if_pos cn]
    · rw [decide_eq_true cn, Bool.true_and]
      have hdeep : Ev (fun k => spec_l2Deep.f k L 0) 0 := by
        unfold spec_l2Deep.f
        refine Ev.later fun k => ?_
        simp only [spec_l2Deep.l0]
        rw [if_pos (by omega), if_pos (by omega), if_neg (by omega)]
      have hgu : goodI (rd_T74 L 0) = (qualB (rd_T74 L 0).f1 && (decide ((rd_T74 L 0).f2.toList = []) && attrsB (rd_T74 L 0).f3)) := by unfold goodI; rw [if_neg cn]
      refine Ev.step (f := fun k => spec_DocOk.j4 k L (limB (rd_T74 L 0) : Int) 0 (rd_T74 L 0).f0 (rd_T74 L 0).f1 (rd_T74 L 0).f2 (rd_T74 L 0).f3) (fun k => ?_) (Ev.step (f := fun k => spec_DocOk.j6 k L (limB (rd_T74 L 0) : Int) 0 (rd_T74 L 0).f0 (rd_T74 L 0).f1 (rd_T74 L 0).f2 (rd_T74 L 0).f3) (fun k => ?_) (Ev.step (f := fun k => (spec_l2Deep.f k L 0).bind fun t153 => (if t153 ≥ 20 then (some false) else (if (rd_T74 L 0).f1.toList = ([] : List UInt8) then (if (rd_T74 L 0).f2.toList = ([] : List UInt8) then (spec_DocOk.j7 k L (limB (rd_T74 L 0) : Int) 0 true (rd_T74 L 0).f0 (rd_T74 L 0).f1 (rd_T74 L 0).f2 (rd_T74 L 0).f3) else (if ((rd_T74 L 0).f3.length : Int) > 0 then (spec_DocOk.j7 k L (limB (rd_T74 L 0) : Int) 0 true (rd_T74 L 0).f0 (rd_T74 L 0).f1 (rd_T74 L 0).f2 (rd_T74 L 0).f3) else ((spec_l1Text.f k (rd_T74 L 0).f2).bind fun t154 => (spec_DocOk.j7 k L (limB (rd_T74 L 0) : Int) 0 (!t154) (rd_T74 L 0).f0 (rd_T74 L 0).f1 (rd_T74 L 0).f2 (rd_T74 L 0).f3)))) else (if (rd_T74 L 0).f2.toList = ([] : List UInt8) then ((spec_l1Qual.f k (rd_T74 L 0).f1).bind fun t157 => (if t157 = true then ((spec_l2Attrs.f k (rd_T74 L 0).f3).bind fun t158 => (if t158 = true then (spec_DocOk.l0 k L (limB (rd_T74 L 0) : Int) (wrap64 (0 + 1))) else (some false))) else (some false))) else (some false))))) (fun k => by simp only [spec_DocOk.j6]) (Ev.bind hdeep ?_)))
      · simp only [spec_DocOk.j3]
        rw [if_neg cbig, if_pos trivial, if_pos cu, if_neg cn]
      · simp only [spec_DocOk.j4]
        rw [if_neg (by omega)]
      · simp only [show ¬ ((0 : Int) ≥ 20) by omega, if_false, cn]
        rw [hgu]
        by_cases hw0 : (rd_T74 L 0).f2.toList = []
        · simp only [hw0, if_true, decide_true, Bool.true_and]
          refine Ev.bind (spec_l1Qual_ev (rd_T74 L 0).f1 (by have := hx0.1; omega)) ?_
          cases hqb : qualB (rd_T74 L 0).f1 with
          | false => simp only [Bool.false_eq_true, if_false, Bool.false_and]; exact Ev.now _
          | true =>
            simp only [if_true, Bool.true_and]
            refine Ev.bind (spec_Attrs_ev _ hx0.2.2) ?_
            cases hab : attrsB (rd_T74 L 0).f3 with
            | false => simp only [Bool.false_eq_true, if_false, Bool.false_and]; exact Ev.now _
            | true =>
              simp only [if_true, Bool.true_and]
              have hg : goodI (rd_T74 L 0) = true := by rw [hgu, hqb, hab, decide_eq_true hw0]; rfl
              have := spec_Doc_l0_ev L hL (L.length - 1) 1 [0] (limB (rd_T74 L 0) : Int) (by omega) (start_inv L h1 cu cn) (by simp) (by omega) (by omega)
              rw [lim_good _ hg] at this ⊢
              rw [w64 (x := 0 + 1) (by omega) (by omega)]
              exact this
        · simp only [hw0, if_false, decide_false, Bool.false_and, Bool.and_false]
          exact Ev.now _
  · rw [decide_eq_false cu, Bool.false_and, Bool.false_and]
    refine Ev.later fun k => ?_
    simp only [spec_DocOk.j3]
    rw [if_neg cbig, if_pos trivial, if_neg cu]
theorem impl_DocOk_ev (L : List S74) (hs : L.length ≤ 1048576) (hx : ∀ x ∈ L, smallI x) (hw : wIs L ≤ 1048576) : Ev (fun k => impl_DocOk.f k L) (docB L) := by
  unfold impl_DocOk.f docB
  have bad : Ev (fun k => impl_DocOk.j0 k L true) false := Ev.later fun k => by simp only [impl_DocOk.j0, if_true]
  simp only [impl_in_eq, Option.bind_some, inR]
  by_cases c : 1 ≤ (L.length : Int) ∧ (L.length : Int) ≤ 200
  · have cd := decide_eq_true c
    simp only [cd, if_true]
    have h1 : 1 ≤ L.length := by omega
    rw [decide_eq_true h1, decide_eq_true (show L.length ≤ 200 by omega), Bool.true_and, Bool.true_and]
    have q0 : (0 : Int) < (L.length : Int) := by omega
    simp only [q0, if_true]
    have hL : smallL L := ⟨by omega, hx, hw⟩
    have e : rd_T74 L ((0 : Nat) : Int) = L[0] := getII L 0 h1
    have hx0 : smallI (rd_T74 L 0) := by have := hx _ (List.getElem_mem h1); rw [← e] at this; exact this
    have q1 := wIs_drop L 0 h1
    have q2 := wIs_le L 0
    rw [← e] at q1
    have q1 : wIs (L.drop 0) = wI (rd_T74 L 0) + wIs (L.drop 1) := q1
    have hwx : wI (rd_T74 L 0) ≤ 1048576 := by omega
    have hw1 : wI (rd_T74 L 0) = (rd_T74 L 0).f1.size + (rd_T74 L 0).f2.size + (rd_T74 L 0).f3.length + wAs (rd_T74 L 0).f3 := rfl
    have hw2 : wB (rd_T74 L 0) = (rd_T74 L 0).f1.size + (rd_T74 L 0).f2.size + wAs (rd_T74 L 0).f3 := rfl
    by_cases cu : (rd_T74 L 0).f0 = -1
    · simp only [cu, if_true, decide_true, Bool.true_and]
      by_cases cn : (rd_T74 L 0).f1.toList = []
      · rw [decide_eq_false (show ¬ ¬ (rd_T74 L 0).f1.toList = [] from fun h => h cn), Bool.false_and, show ((rd_T74 L 0).f1.toList == ([] : List UInt8)) = true from beq_iff_eq.mpr cn]
        exact bad
      · rw [decide_eq_true cn, Bool.true_and, show ((rd_T74 L 0).f1.toList == ([] : List UInt8)) = false from beq_eq_false_iff_ne.mpr cn]
        refine Ev.step (f := fun k => impl_DocOk.l0 k L 0 [] L (L.length : Int) 0) (fun k => by simp only [impl_DocOk.j0, Bool.false_eq_true, if_false]) ?_
        refine Ev.step (f := fun k => (impl_Item_isGood.f k (rd_T74 L 0).f0 (rd_T74 L 0).f1 (rd_T74 L 0).f2 (rd_T74 L 0).f3).bind fun t233 => (if t233 = true then ((impl_Item_bytes.f k (rd_T74 L 0).f0 (rd_T74 L 0).f1 (rd_T74 L 0).f2 (rd_T74 L 0).f3).bind fun t234 => (impl_DocOk.l1 k L (wrap64 (0 + t234)) [] 0 L (L.length : Int) 0 (rd_T74 L 0).f0 (rd_T74 L 0).f1 (rd_T74 L 0).f2 (rd_T74 L 0).f3)) else (some false))) (fun k => ?_) (Ev.bind (impl_isGood_ev _ hx0) ?_)
        · simp only [impl_DocOk.l0]
          rw [if_pos q0, if_pos (by omega), if_pos q0]
        · cases hg : goodI (rd_T74 L 0) with
          | false => simp only [Bool.false_eq_true, if_false, Bool.false_and]; exact Ev.now _
          | true =>
            simp only [if_true, Bool.true_and]
            refine Ev.bind (impl_bytes_ev _ (by omega)) ?_
            rw [w64 (x := 0 + (wB (rd_T74 L 0) : Int)) (by omega) (by omega), Int.zero_add]
            have hk := impl_Doc_l0_ev L hL (L.length - 1) 1 [0] (wB (rd_T74 L 0) : Int) (by omega) (start_inv L h1 cu cn) (by simp) (by omega) (by omega)
            have es : stk L 1 [0] = [0] := by unfold stk; rw [if_neg (show ¬ (rd_T74 L ((1 - 1 : Nat) : Int)).f1.toList = [] from cn)]
            rw [es] at hk
            refine Ev.step (f := fun k => impl_DocOk.j3 k L (wB (rd_T74 L 0) : Int) [] 0 L (L.length : Int) 0 (rd_T74 L 0).f0 (rd_T74 L 0).f1 (rd_T74 L 0).f2 (rd_T74 L 0).f3) (fun k => ?_) (Ev.step (f := fun k => impl_DocOk.j4 k L (wB (rd_T74 L 0) : Int) [] 0 L (L.length : Int) 0 false (rd_T74 L 0).f0 (rd_T74 L 0).f1 (rd_T74 L 0).f2 (rd_T74 L 0).f3) (fun k => ?_) (Ev.step (fun k => ?_) hk))
            · simp only [impl_DocOk.l1]
              rw [if_neg (by simp)]
            · simp only [impl_DocOk.j3]
              rw [if_neg (by omega), decide_eq_false (by simp)]
            · simp only [impl_DocOk.j4, Bool.false_eq_true, if_false]
              rw [if_neg cn, if_pos (by simp), w64 (x := 0 + 1) (by omega) (by omega)]
              rfl
    · simp only [cu, if_false, decide_false, Bool.false_and]
      exact bad
  · have cd := decide_eq_false c
    simp only [cd, Bool.false_eq_true, if_false]
    have : (decide (1 ≤ L.length) && decide (L.length ≤ 200)) = false := by
      by_cases q : 1 ≤ L.length
      · rw [decide_eq_false (show ¬ L.length ≤ 200 by omega), Bool.and_false]
      · rw [decide_eq_false q, Bool.false_and]
    rw [this, Bool.false_and]
    exact bad
theorem wA_mem {l : List S76} {y : S76} (h : y ∈ l) : wA y ≤ wAs l := by
  induction l with
  | nil => cases h
  | cons a l ih =>
    rw [wAs_cons]
    rcases List.mem_cons.1 h with e | e
    · rw [e]; omega
    · have := ih e; omega
theorem wI_mem {l : List S74} {y : S74} (h : y ∈ l) : wI y ≤ wIs l := by
  induction l with
  | nil => cases h
  | cons a l ih =>
    rw [wIs_cons]
    rcases List.mem_cons.1 h with e | e
    · rw [e]; omega
    · have := ih e; omega
theorem small_of {l : List S74} (h : wIs l ≤ 1048576) : ∀ x ∈ l, smallI x := by
  intro x hx
  have h1 := wI_mem hx
  have hw1 : wI x = x.f1.size + x.f2.size + x.f3.length + wAs x.f3 := rfl
  refine ⟨by omega, by omega, by omega, fun y hy => ?_⟩
  have h2 := wA_mem hy
  have hw2 : wA y = y.f0.size + y.f1.size := rfl
  omega
end Go.Proofs.YtbhklkpjjpkblaaDoor.PI
namespace Go.Proofs.YtbhklkpjjpkblaaDoor.PI
open Go.RowKit Go.Proofs.YtbhklkpjjpkblaaDoorW.PrintWords
set_option linter.unusedVariables false
set_option linter.unusedSimpArgs false
theorem bytes_ext {a b : ByteArray} (h : a.data.toList = b.data.toList) : a = b := by
  apply ByteArray.ext
  apply Array.ext'
  exact h
theorem append_list (a b : ByteArray) : (a ++ b).data.toList = a.data.toList ++ b.data.toList := by rw [ByteArray.data_append, Array.toList_append]
end Go.Proofs.YtbhklkpjjpkblaaDoor.PI
namespace Go.Proofs.YtbhklkpjjpkblaaDoor.PI
open Go.RowKit Go.Proofs.YtbhklkpjjpkblaaDoorW.PrintWords Go.Proofs.YtbhklkpjjpkblaaDoorW.PrintMore
set_option linter.unusedVariables false
set_option linter.unusedSimpArgs false
theorem docR_up (L : List S74) : ∀ d i C (s : Int), docR L d i C s = true → Inv L i C → i + d = L.length → ∀ j, i ≤ j → j < L.length → 0 ≤ (rd_T74 L (j : Int)).f0 ∧ (rd_T74 L (j : Int)).f0 < (j : Int)
  | 0, i, C, s, _, _, hi, j, h1, h2 => by omega
  | d + 1, i, C, s, h, hI, hi, j, h1, h2 => by
    rw [docR] at h
    simp only [Bool.and_eq_true] at h
    obtain ⟨_, hl, hr⟩ := h
    have hp : ¬ pop L i C = [] := by
      unfold linkB at hl
      simp only [Bool.and_eq_true, decide_eq_true_eq] at hl
      exact hl.1
    have hi2 : i < L.length := by omega
    by_cases e : j = i
    · subst e
      obtain ⟨a, T, eT⟩ := List.exists_cons_of_ne_nil hp
      have hh := drop_head _ _ a T (show (stk L j C).dropWhile (notUp L j) = a :: T from eT)
      have hu : (a : Int) = (rd_T74 L (j : Int)).f0 := by
        have := hh.1
        unfold notUp at this
        simpa using this
      have := hI.lt a (hI.stk_in a hh.2.1)
      omega
    · exact docR_up L d (i + 1) _ _ hr (hI.next hi2 hp) (by omega) j (by omega) h2
theorem docB_up (L : List S74) (h : docB L = true) : ∀ j, j < L.length → -1 ≤ (rd_T74 L (j : Int)).f0 ∧ (rd_T74 L (j : Int)).f0 < (j : Int) := by
  unfold docB at h
  simp only [Bool.and_eq_true, decide_eq_true_eq] at h
  obtain ⟨⟨h1, h2⟩, ⟨hu, hn⟩, hg, hr⟩ := h
  intro j hj
  by_cases e : j = 0
  · subst e
    have : (rd_T74 L ((0 : Nat) : Int)).f0 = -1 := hu
    omega
  · have := docR_up L _ 1 [0] _ hr (start_inv L h1 hu hn) (by omega) j (by omega) hj
    omega
theorem docB_length (L : List S74) (h : docB L = true) : L.length ≤ 200 := by
  unfold docB at h
  simp only [Bool.and_eq_true, decide_eq_true_eq] at h
  exact h.1.2
end Go.Proofs.YtbhklkpjjpkblaaDoor.PI
namespace Go.Proofs.YtbhklkpjjpkblaaDoor.PI
open Go.RowKit Go.Proofs.YtbhklkpjjpkblaaDoorW.PrintWords Go.Proofs.YtbhklkpjjpkblaaDoorW.PrintMore
set_option linter.unusedVariables false
set_option linter.unusedSimpArgs false
section
variable (L : List S74) (p nm : ByteArray)
def atEnd (p : ByteArray) : ByteArray × Bool := ((⟨#[]⟩ : ByteArray), (p.toList == ([] : List UInt8)))
theorem bound_l1 (hL : L.length ≤ 200) (n : Nat) (hn : n < L.length) (ha : (rd_T74 L (n : Int)).f3.length ≤ 1048576) (r : ByteArray × Bool) (hs : Ev (fun k => spec_l3Bound.l0 k L p nm (rd_T74 L (n : Int)).f0) r) (hi : Ev (fun k => impl_bound.l0 k L (rd_T74 L (n : Int)).f0 p nm) r) :
    ∀ d m, m + d = (rd_T74 L (n : Int)).f3.length → ∃ r, Ev (fun k => spec_l3Bound.l1 k L p nm (n : Int) (m : Int)) r ∧ Ev (fun k => impl_bound.l1 k L (n : Int) p nm (rd_T74 L (n : Int)).f3 ((rd_T74 L (n : Int)).f3.length : Int) (m : Int)) r := by
  intro d
  induction d with
  | zero =>
    intro m hm
    refine ⟨r, Ev.step (fun k => ?_) hs, Ev.step (fun k => ?_) hi⟩
    · simp only [spec_l3Bound.l1]
      rw [if_pos (by omega), if_pos (cast_lt hn), if_neg (cast_nlt (by omega))]
    · simp only [impl_bound.l1]
      rw [if_neg (cast_nlt (by omega)), if_pos (by omega), if_pos (cast_lt hn)]
  | succ d ih =>
    intro m hm
    have hm2 : m < (rd_T74 L (n : Int)).f3.length := by omega
    by_cases c : (rd_T76 (rd_T74 L (n : Int)).f3 (m : Int)).f0.toList = nm.toList
    · by_cases v : (rd_T76 (rd_T74 L (n : Int)).f3 (m : Int)).f1.toList = []
      · refine ⟨((rd_T76 (rd_T74 L (n : Int)).f3 (m : Int)).f1, (p.toList == ([] : List UInt8))), Ev.later fun k => ?_, Ev.later fun k => ?_⟩
        · simp only [spec_l3Bound.l1]
          rw [if_pos (by omega), if_pos (cast_lt hn), if_pos (cast_lt hm2), if_pos (by omega), if_pos c, if_pos v]
        · simp only [impl_bound.l1]
          rw [if_pos (cast_lt hm2), if_pos (by omega), if_pos (cast_lt hm2), if_pos c, v]
          by_cases q : p.toList = []
          · rw [if_pos q, q]; rfl
          · rw [if_neg q, beq_eq_false_iff_ne.mpr q]; rfl
      · refine ⟨((rd_T76 (rd_T74 L (n : Int)).f3 (m : Int)).f1, true), Ev.later fun k => ?_, Ev.later fun k => ?_⟩
        · simp only [spec_l3Bound.l1]
          rw [if_pos (by omega), if_pos (cast_lt hn), if_pos (cast_lt hm2), if_pos (by omega), if_pos c, if_neg v]
        · simp only [impl_bound.l1]
          rw [if_pos (cast_lt hm2), if_pos (by omega), if_pos (cast_lt hm2), if_pos c]
          by_cases q : p.toList = []
          · rw [if_pos q]
          · rw [if_neg q, bne_iff_ne.mpr v]
    · obtain ⟨r2, h1, h2⟩ := ih (m + 1) (by omega)
      refine ⟨r2, Ev.step (fun k => ?_) h1, Ev.step (fun k => ?_) h2⟩
      · simp only [spec_l3Bound.l1]
        rw [if_pos (by omega), if_pos (cast_lt hn), if_pos (cast_lt hm2), if_pos (by omega), if_neg c, wrap_succ (n := (rd_T74 L (n : Int)).f3.length) (by omega) (cast_lt hm2) (by omega)]
        rfl
      · simp only [impl_bound.l1]
        rw [if_pos (cast_lt hm2), if_pos (by omega), if_pos (cast_lt hm2), if_neg c, wrap_succ (n := (rd_T74 L (n : Int)).f3.length) (by omega) (cast_lt hm2) (by omega)]
        rfl
theorem bound_l0 (hL : L.length ≤ 200) (hx : ∀ x ∈ L, smallI x) (hup : ∀ j, j < L.length → -1 ≤ (rd_T74 L (j : Int)).f0 ∧ (rd_T74 L (j : Int)).f0 < (j : Int)) : ∀ n, n < L.length → ∃ r, Ev (fun k => spec_l3Bound.l0 k L p nm (n : Int)) r ∧ Ev (fun k => impl_bound.l0 k L (n : Int) p nm) r := by
  intro n
  induction n using Nat.strongRecOn with
  | ind n ih =>
    intro hn
    have hu := hup n hn
    have rest : ∃ r, Ev (fun k => spec_l3Bound.l0 k L p nm (rd_T74 L (n : Int)).f0) r ∧ Ev (fun k => impl_bound.l0 k L (rd_T74 L (n : Int)).f0 p nm) r := by
      by_cases c : 0 ≤ (rd_T74 L (n : Int)).f0
      · obtain ⟨m, hm⟩ := Int.eq_ofNat_of_zero_le c
        rw [hm]
        exact ih m (by omega) (by omega)
      · have e : (rd_T74 L (n : Int)).f0 = -1 := by omega
        rw [e]
        refine ⟨atEnd p, Ev.later fun k => ?_, Ev.later fun k => ?_⟩
        · simp only [spec_l3Bound.l0]
          rw [if_neg (by omega)]
          rfl
        · simp only [impl_bound.l0]
          rw [if_neg (by omega)]
          rfl
    obtain ⟨r, h1, h2⟩ := rest
    have ha : (rd_T74 L (n : Int)).f3.length ≤ 1048576 := by
      rw [getII L n hn]
      exact (hx _ (List.getElem_mem _)).2.2.1
    obtain ⟨r2, g1, g2⟩ := bound_l1 L p nm hL n hn ha r h1 h2 (rd_T74 L (n : Int)).f3.length 0 (by omega)
    refine ⟨r2, Ev.step (fun k => ?_) g1, Ev.step (fun k => ?_) g2⟩
    · simp only [spec_l3Bound.l0]
      rw [if_pos (by omega)]
      rfl
    · simp only [impl_bound.l0]
      rw [if_pos (by omega), if_pos (by omega), if_pos (cast_lt hn)]
      rfl
theorem name_eq : (⟨#[120, 109, 108, 110, 115, 58]⟩ : ByteArray) ++ p = (⟨#[120, 109, 108, 110, 115]⟩ : ByteArray) ++ ((⟨#[58]⟩ : ByteArray) ++ p) := by
  apply bytes_ext
  rw [append_list, append_list, append_list]
  rfl
theorem bound_f (hp : p.size ≤ 140737488351232) (hL : L.length ≤ 200) (hx : ∀ x ∈ L, smallI x) (hup : ∀ j, j < L.length → -1 ≤ (rd_T74 L (j : Int)).f0 ∧ (rd_T74 L (j : Int)).f0 < (j : Int)) (n : Nat) (hn : n < L.length) : ∃ r, Ev (fun k => spec_l3Bound.f k L (n : Int) p) r ∧ Ev (fun k => impl_bound.f k L (n : Int) p) r := by
  unfold spec_l3Bound.f impl_bound.f
  by_cases c : p.toList = ([120, 109, 108] : List UInt8)
  · simp only [c, if_true]
    exact ⟨_, Ev.now _, Ev.now _⟩
  simp only [c, if_false]
  by_cases d : p.toList = []
  · simp only [d, if_true]
    obtain ⟨r, h1, h2⟩ := bound_l0 L p (⟨#[120, 109, 108, 110, 115]⟩ : ByteArray) hL hx hup n hn
    exact ⟨r, Ev.step (fun k => by simp only [spec_l3Bound.j0]) h1, Ev.step (fun k => by simp only [impl_bound.j0]) h2⟩
  · simp only [d, if_false]
    obtain ⟨r, h1, h2⟩ := bound_l0 L p ((⟨#[120, 109, 108, 110, 115, 58]⟩ : ByteArray) ++ p) hL hx hup n hn
    have q1 : 6 + p.size ≤ 9223372036854775807 := by omega
    have q2 : 1 + p.size ≤ 9223372036854775807 := by omega
    have q3 : 5 + (1 + p.size) ≤ 9223372036854775807 := by omega
    simp only [q1, q2, q3, if_true, ← name_eq]
    exact ⟨r, Ev.step (fun k => by simp only [spec_l3Bound.j0]) h1, Ev.step (fun k => by simp only [impl_bound.j0]) h2⟩
end
end Go.Proofs.YtbhklkpjjpkblaaDoor.PI
namespace Go.Proofs.YtbhklkpjjpkblaaDoor.PI
open Go.RowKit Go.Proofs.YtbhklkpjjpkblaaDoorW.PrintWords Go.Proofs.YtbhklkpjjpkblaaDoorW.PrintMore
set_option linter.unusedVariables false
set_option linter.unusedSimpArgs false
theorem cnt_le (l : List S74) : laws_markItemS.cnt l ≤ 3 * (l.length : Int) + 2 * (wIs l : Int) := by
  induction l with
  | nil => exact Int.le_refl _
  | cons x l ih =>
    rw [wIs_cons, List.length_cons]
    have hw1 : wI x = x.f1.size + x.f2.size + x.f3.length + wAs x.f3 := rfl
    unfold laws_markItemS.cnt
    omega
theorem markI (l : List S74) (h : l.length + wIs l ≤ 1048576) : ∃ t, laws_markItemS.f l 1 = some t ∧ ¬ t < 0 := by
  have h1 := cnt_le l
  have h2 := laws_markItemS.cnt_pos l
  refine ⟨1 + laws_markItemS.cnt l, ?_, by omega⟩
  unfold laws_markItemS.f
  rw [if_pos ⟨by omega, by omega⟩]
end Go.Proofs.YtbhklkpjjpkblaaDoor.PI
namespace Go.Proofs.YtbhklkpjjpkblaaDoor.PI
open Go.RowKit Go.Proofs.YtbhklkpjjpkblaaDoorW.PrintWords Go.Proofs.YtbhklkpjjpkblaaDoorW.PrintMore
set_option linter.unusedVariables false
set_option linter.unusedSimpArgs false
noncomputable def mtx (i : Int) : ByteArray := if h : i ≤ 1000000100 then Classical.choose (Classical.choose_spec (laws_markText_some i h)) else ⟨#[]⟩
theorem mtx_ev (i : Int) (h : i ≤ 1000000100) : Ev (fun k => laws_markText.f k i) (mtx i) := by
  have hc := Classical.choose_spec (Classical.choose_spec (laws_markText_some i h))
  have e : mtx i = Classical.choose (Classical.choose_spec (laws_markText_some i h)) := by unfold mtx; rw [dif_pos h]
  rw [e]
  exact Ev.of (fun k => laws_markText.mono i k) hc
end Go.Proofs.YtbhklkpjjpkblaaDoor.PI
namespace Go.Proofs.YtbhklkpjjpkblaaDoor.PI
open Go.RowKit Go.Proofs.YtbhklkpjjpkblaaDoorW.PrintWords Go.Proofs.YtbhklkpjjpkblaaDoorW.PrintMore
set_option linter.unusedVariables false
set_option linter.unusedSimpArgs false
theorem getQ (l : List S92) (n : Nat) (h : n < l.length) : rd_T92 l (n : Int) = l[n] := by unfold rd_T92; simp [List.getD_eq_getElem?_getD, h]
theorem eqQNameS_self (l : List S92) (hl : l.length ≤ 10000000) : Ev (fun k => laws_eqQNameS.f k l l) true := by
  have main : ∀ d n, n + d = l.length → Ev (fun k => laws_eqQNameS.l0 k l l (n : Int)) true := by
    intro d
    induction d with
    | zero =>
      intro n hn
      refine Ev.later fun k => ?_
      simp only [laws_eqQNameS.l0]
      rw [if_neg (cast_nlt (by omega))]
    | succ d ih =>
      intro n hn
      refine Ev.step (fun k => ?_) (ih (n + 1) (by omega))
      simp only [laws_eqQNameS.l0, laws_eqQName.f]
      rw [if_pos (cast_lt (by omega)), if_pos (by omega), if_pos (cast_lt (by omega)), wrap_succ (n := l.length) (by omega) (cast_lt (by omega)) (by omega)]
      simp only [if_true, Option.bind_some]
      rfl
  unfold laws_eqQNameS.f
  simp only [if_true]
  exact main l.length 0 (by omega)
def qmk (f : Int → ByteArray) : Nat → List S92
  | 0 => []
  | n + 1 => qmk f n ++ [⟨f (2 * (n : Int) + 1), f (2 * (n : Int) + 2)⟩]
theorem qmk_length (f : Int → ByteArray) : ∀ n, (qmk f n).length = n
  | 0 => rfl
  | n + 1 => by rw [qmk, List.length_append, qmk_length f n]; rfl
theorem qmk_rd (f : Int → ByteArray) : ∀ (N n : Nat), n < N → rd_T92 (qmk f N) (n : Int) = ⟨f (2 * (n : Int) + 1), f (2 * (n : Int) + 2)⟩ := by
  intro N
  induction N with
  | zero => intro n h; omega
  | succ N ih =>
    intro n h
    have hl := qmk_length f N
    unfold rd_T92 at ih ⊢
    rw [qmk, List.getD_eq_getElem?_getD, Int.toNat_natCast]
    by_cases e : n < N
    · rw [List.getElem?_append_left (by omega)]
      have := ih n e
      rw [List.getD_eq_getElem?_getD, Int.toNat_natCast] at this
      exact this
    · obtain rfl : n = N := by omega
      rw [List.getElem?_append_right (by omega), hl]
      simp
noncomputable def qmarks (n : Nat) : List S92 := qmk mtx n
theorem qmarks_zero : qmarks 0 = [] := rfl
theorem qmarks_succ (n : Nat) : qmarks (n + 1) = qmarks n ++ [⟨mtx (2 * (n : Int) + 1), mtx (2 * (n : Int) + 2)⟩] := by unfold qmarks; rw [qmk]
theorem qmarks_length (n : Nat) : (qmarks n).length = n := qmk_length mtx n
theorem qmarks_rd (N n : Nat) (h : n < N) : rd_T92 (qmarks N) (n : Int) = ⟨mtx (2 * (n : Int) + 1), mtx (2 * (n : Int) + 2)⟩ := qmk_rd mtx N n h
theorem setQ_rd (l : List S92) (n : Nat) (v : S92) (h : n < l.length) : rd_T92 (l.set n v) (n : Int) = v := by
  rw [getQ _ n (by simpa using h)]
  simp
theorem markQNameS_l0_ev : ∀ (d n : Nat) (r : List S92), r.length = d → n + d ≤ 10000000 → Ev (fun k => laws_markQNameS.l0 k (qmarks n ++ r) (2 * (n : Int) + 1) (n : Int)) (2 * ((n + d : Nat) : Int) + 1, qmarks (n + d)) := by
  intro d
  induction d with
  | zero =>
    intro n r hr hn
    obtain rfl : r = [] := List.length_eq_zero_iff.1 hr
    refine Ev.later fun k => ?_
    simp only [laws_markQNameS.l0]
    rw [List.append_nil, qmarks_length, if_neg (by omega)]
    rfl
  | succ d ih =>
    intro n r hr hn
    have hl := qmarks_length n
    have hlt : n < (qmarks n ++ r).length := by rw [List.length_append]; omega
    have h := ih (n + 1) r.tail (by rw [List.length_tail]; omega) (by omega)
    rw [show n + 1 + d = n + (d + 1) by omega, qmarks_succ n] at h
    refine Ev.step (f := fun k => (laws_markText.f k (2 * (n : Int) + 1)).bind fun t330 => (laws_markText.f k (2 * (n : Int) + 2)).bind fun t332 => laws_markQNameS.l0 k (((qmarks n ++ r).set n (⟨t330, (rd_T92 (qmarks n ++ r) (n : Int)).f1⟩ : S92)).set n (⟨(rd_T92 ((qmarks n ++ r).set n (⟨t330, (rd_T92 (qmarks n ++ r) (n : Int)).f1⟩ : S92)) (n : Int)).f0, t332⟩ : S92)) (2 * ((n + 1 : Nat) : Int) + 1) ((n + 1 : Nat) : Int)) (fun k => ?_) ?_
    · simp only [laws_markQNameS.l0]
      rw [if_pos (by rw [List.length_append]; omega), w64 (x := 2 * (n : Int) + 1 + 1) (by omega) (by omega), w64 (x := 2 * (n : Int) + 1 + 1 + 1) (by omega) (by omega), w64 (x := (n : Int) + 1) (by omega) (by omega), Int.toNat_natCast, show 2 * (n : Int) + 1 + 1 + 1 = 2 * ((n + 1 : Nat) : Int) + 1 by omega, show 2 * (n : Int) + 1 + 1 = 2 * (n : Int) + 2 by omega]
      simp only [if_pos (show (0 : Int) ≤ (n : Int) by omega), Option.bind_some]
      rfl
    refine Ev.bind (mtx_ev _ (by omega)) (Ev.bind (mtx_ev _ (by omega)) ?_)
    rw [setQ_rd _ n _ hlt, List.set_set, set_next (qmarks n) r n _ z92 hl.symm (by omega)]
    dsimp only
    exact h
theorem markQNameS_ev (l : List S92) (h : l.length ≤ 10000000) : Ev (fun k => laws_markQNameS.f k l 1) (2 * (l.length : Int) + 1, qmarks l.length) := by
  unfold laws_markQNameS.f
  have := markQNameS_l0_ev l.length 0 l rfl (by omega)
  rw [qmarks_zero] at this
  simpa using this
theorem heldQNameS_l0_ev (N : Nat) (hN : N ≤ 10000000) : ∀ (d n : Nat), n + d = N → Ev (fun k => laws_heldQNameS.l0 k (qmarks N) (2 * (n : Int) + 1) (n : Int)) (2 * (N : Int) + 1) := by
  intro d
  induction d with
  | zero =>
    intro n hn
    refine Ev.later fun k => ?_
    simp only [laws_heldQNameS.l0]
    rw [qmarks_length, if_neg (by omega), show n = N by omega]
  | succ d ih =>
    intro n hn
    refine Ev.step (f := fun k => (laws_markText.f k (2 * (n : Int) + 1)).bind fun t => if (mtx (2 * (n : Int) + 1)).toList = t.toList then (laws_markText.f k (2 * (n : Int) + 2)).bind fun t2 => (if (mtx (2 * (n : Int) + 2)).toList = t2.toList then laws_heldQNameS.l0 k (qmarks N) (2 * ((n + 1 : Nat) : Int) + 1) ((n + 1 : Nat) : Int) else some (-1)) else some (-1)) (fun k => ?_) ?_
    · simp only [laws_heldQNameS.l0]
      rw [qmarks_length, if_pos (by omega), if_pos (by omega), qmarks_rd N n (by omega), w64 (x := 2 * (n : Int) + 1 + 1) (by omega) (by omega), w64 (x := 2 * (n : Int) + 1 + 1 + 1) (by omega) (by omega), w64 (x := (n : Int) + 1) (by omega) (by omega), show 2 * (n : Int) + 1 + 1 + 1 = 2 * ((n + 1 : Nat) : Int) + 1 by omega, show 2 * (n : Int) + 1 + 1 = 2 * (n : Int) + 2 by omega]
      rw [show ((n + 1 : Nat) : Int) = (n : Int) + 1 by omega]
    refine Ev.bind (mtx_ev _ (by omega)) ?_
    simp only [if_true]
    refine Ev.bind (mtx_ev _ (by omega)) ?_
    simp only [if_true]
    exact ih (n + 1) (by omega)
theorem heldQNameS_ev (N : Nat) (hN : N ≤ 10000000) : Ev (fun k => laws_heldQNameS.f k (qmarks N) 1) (2 * (N : Int) + 1) := by
  unfold laws_heldQNameS.f
  have := heldQNameS_l0_ev N hN N 0 (by omega)
  simpa using this
end Go.Proofs.YtbhklkpjjpkblaaDoor.PI
namespace Go.Proofs.YtbhklkpjjpkblaaDoor.PI
open Go.RowKit Go.Proofs.YtbhklkpjjpkblaaDoorW.PrintWords Go.Proofs.YtbhklkpjjpkblaaDoorW.PrintMore
set_option linter.unusedVariables false
set_option linter.unusedSimpArgs false
def hasQ (l : List S92) (a b : ByteArray) : Bool := l.any fun x => (x.f0.toList == a.toList) && (x.f1.toList == b.toList)
theorem hasQ_drop (l : List S92) (a b : ByteArray) (n : Nat) (h : n < l.length) : hasQ (l.drop n) a b = (((l[n].f0.toList == a.toList) && (l[n].f1.toList == b.toList)) || hasQ (l.drop (n + 1)) a b) := by
  unfold hasQ
  rw [List.drop_eq_getElem_cons h, List.any_cons]
theorem hasQ_nil (a b : ByteArray) : hasQ [] a b = false := rfl
theorem index_ev (l : List S92) (hl : l.length ≤ 10000000) (a b : ByteArray) : ∀ d n, n + d = l.length → ∃ r : Int, Ev (fun k => impl_QName_114.l0 k l (l.length : Int) (n : Int) a b) r ∧ (r ≥ 0 ↔ hasQ (l.drop n) a b = true) := by
  intro d
  induction d with
  | zero =>
    intro n hn
    refine ⟨-1, Ev.later fun k => ?_, ?_⟩
    · simp only [impl_QName_114.l0]
      rw [if_neg (cast_nlt (by omega))]
    · rw [List.drop_eq_nil_of_le (by omega), hasQ_nil]
      simp
  | succ d ih =>
    intro n hn
    have hn2 : n < l.length := by omega
    rw [hasQ_drop l a b n hn2]
    have e : ((a.toList == l[n].f0.toList) && (b.toList == l[n].f1.toList)) = ((l[n].f0.toList == a.toList) && (l[n].f1.toList == b.toList)) := by
      rw [Bool.eq_iff_iff]
      simp only [Bool.and_eq_true, beq_iff_eq]
      constructor <;> rintro ⟨h1, h2⟩ <;> exact ⟨h1.symm, h2.symm⟩
    cases c : ((l[n].f0.toList == a.toList) && (l[n].f1.toList == b.toList)) with
    | true =>
      refine ⟨(n : Int), Ev.later fun k => ?_, by simp⟩
      simp only [impl_QName_114.l0]
      rw [if_pos (cast_lt hn2), if_pos (by omega), if_pos (cast_lt hn2), getQ l n hn2, e, c]
      simp only [if_true]
    | false =>
      obtain ⟨r, h1, h2⟩ := ih (n + 1) (by omega)
      refine ⟨r, Ev.step (fun k => ?_) h1, by rw [Bool.false_or]; exact h2⟩
      simp only [impl_QName_114.l0]
      rw [if_pos (cast_lt hn2), if_pos (by omega), if_pos (cast_lt hn2), getQ l n hn2, e, c, wrap_succ (n := l.length) (by omega) (cast_lt hn2) (by omega)]
      simp only [Bool.false_eq_true, if_false]
      rfl
theorem contains_ev (l : List S92) (hl : l.length ≤ 10000000) (a b : ByteArray) : Ev (fun k => impl_QName_91.f k l a b) (hasQ l a b) := by
  obtain ⟨r, h1, h2⟩ := index_ev l hl a b l.length 0 (by omega)
  rw [List.drop_zero] at h2
  unfold impl_QName_91.f impl_QName_114.f
  refine Ev.bind h1 ?_
  have : decide (r ≥ 0) = hasQ l a b := by
    rw [Bool.eq_iff_iff, decide_eq_true_eq]
    exact h2
  rw [this]
  exact Ev.now _
theorem spec_l1_ev (L : List S74) (n : Int) (x7 : Int) (acc : List S92) (hl : acc.length ≤ 10000000) (u l : ByteArray) (r : (List S92) × Bool) (hr : Ev (fun k => spec_l3Attrs.l0 k L n (acc ++ [(⟨u, l⟩ : S92)]) (wrap64 (x7 + 1))) r) : ∀ d m, m + d = acc.length → Ev (fun k => spec_l3Attrs.l1 k L n acc x7 (m : Int) u l) (if hasQ (acc.drop m) u l = true then ([], false) else r) := by
  intro d
  induction d with
  | zero =>
    intro m hm
    rw [List.drop_eq_nil_of_le (by omega), hasQ_nil]
    simp only [Bool.false_eq_true, if_false]
    refine Ev.step (fun k => ?_) hr
    simp only [spec_l3Attrs.l1]
    rw [if_neg (cast_nlt (by omega)), if_pos (by omega)]
  | succ d ih =>
    intro m hm
    have hm2 : m < acc.length := by omega
    rw [hasQ_drop acc u l m hm2]
    cases c : ((acc[m].f0.toList == u.toList) && (acc[m].f1.toList == l.toList)) with
    | true =>
      simp only [Bool.true_or, if_true]
      refine Ev.later fun k => ?_
      simp only [spec_l3Attrs.l1]
      rw [if_pos (cast_lt hm2), if_pos (by omega), getQ acc m hm2, c]
      simp only [if_true]
    | false =>
      rw [Bool.false_or]
      refine Ev.step (fun k => ?_) (ih (m + 1) (by omega))
      simp only [spec_l3Attrs.l1]
      rw [if_pos (cast_lt hm2), if_pos (by omega), getQ acc m hm2, c, wrap_succ (n := acc.length) (by omega) (cast_lt hm2) (by omega)]
      simp only [Bool.false_eq_true, if_false]
      rfl
theorem split_size (s : ByteArray) (hs : s.size ≤ 140737488351232) : (splitF s).1.size ≤ 140737488351232 := by
  unfold splitF
  repeat' split
  all_goals first | exact Nat.zero_le _ | exact size_le hs
theorem attrs_ev (L : List S74) (hL : L.length ≤ 200) (hx : ∀ x ∈ L, smallI x) (hup : ∀ j, j < L.length → -1 ≤ (rd_T74 L (j : Int)).f0 ∧ (rd_T74 L (j : Int)).f0 < (j : Int)) (n : Nat) (hn : n < L.length) (hz : (rd_T74 L (n : Int)).f3.length ≤ 1048576) (hzn : ∀ y ∈ (rd_T74 L (n : Int)).f3, y.f0.size ≤ 1048576) : ∀ d m (acc : List S92), m + d = (rd_T74 L (n : Int)).f3.length → acc.length ≤ m → ∃ r : (List S92) × Bool, r.1.length ≤ 1048576 ∧ Ev (fun k => spec_l3Attrs.l0 k L (n : Int) acc (m : Int)) r ∧ Ev (fun k => impl_attrNames.l0 k L (n : Int) acc (rd_T74 L (n : Int)).f3 ((rd_T74 L (n : Int)).f3.length : Int) (m : Int)) r := by
  intro d
  induction d with
  | zero =>
    intro m acc hm ha
    refine ⟨(acc, true), by simp only; omega, Ev.later fun k => ?_, Ev.later fun k => ?_⟩
    · simp only [spec_l3Attrs.l0]
      rw [if_pos (by omega), if_pos (cast_lt hn), if_neg (cast_nlt (by omega))]
    · simp only [impl_attrNames.l0]
      rw [if_neg (cast_nlt (by omega))]
  | succ d ih =>
    intro m acc hm ha
    have hm2 : m < (rd_T74 L (n : Int)).f3.length := by omega
    have hs := hzn _ (List.getElem_mem hm2)
    have hg := getIA (rd_T74 L (n : Int)).f3 m hm2
    generalize hnm : ((rd_T74 L (n : Int)).f3[m]).f0 = nm at hs
    have hsp1 := spec_Split_ev nm (by omega)
    have hsp2 := impl_Split_ev nm (by omega)
    have hps := split_size nm (by omega)
    generalize splitF nm = sf at hsp1 hsp2 hps
    obtain ⟨p, l, b⟩ := sf
    replace hps : p.size ≤ 140737488351232 := hps
    have hw : wrap64 ((m : Int) + 1) = ((m + 1 : Nat) : Int) := by rw [wrap_succ (n := (rd_T74 L (n : Int)).f3.length) (by omega) (cast_lt hm2) (by omega)]; rfl
    -- what follows a name that is no binding
    have tail : ∀ u : ByteArray, ∃ r : (List S92) × Bool, r.1.length ≤ 1048576 ∧ Ev (fun k => spec_l3Attrs.j2 k L (n : Int) acc (m : Int) u l) r ∧ Ev (fun k => (impl_QName_91.f k acc u l).bind fun t310 => (if t310 = true then (some (([] : List S92), false)) else (if acc.length < 4398046511104 then (impl_attrNames.l0 k L (n : Int) (acc ++ [(⟨u, l⟩ : S92)]) (rd_T74 L (n : Int)).f3 ((rd_T74 L (n : Int)).f3.length : Int) (wrap64 ((m : Int) + 1))) else (none)))) r := by
      intro u
      obtain ⟨r, hr0, h1, h2⟩ := ih (m + 1) (acc ++ [(⟨u, l⟩ : S92)]) (by omega) (by rw [List.length_append]; simp only [List.length_cons, List.length_nil]; omega)
      have hc := contains_ev acc (by omega) u l
      have hl1 := spec_l1_ev L (n : Int) (m : Int) acc (by omega) u l r (by rw [hw]; exact h1) acc.length 0 (by omega)
      rw [List.drop_zero] at hl1
      refine ⟨if hasQ acc u l = true then ([], false) else r, by split; exact Nat.zero_le _; exact hr0, Ev.step (fun k => by simp only [spec_l3Attrs.j2]; rfl) hl1, Ev.bind hc ?_⟩
      cases hasQ acc u l with
      | true => simp only [if_true]; exact Ev.now _
      | false =>
        simp only [Bool.false_eq_true, if_false, hw, show (acc.length < 4398046511104) = True from eq_true (by omega), if_true]
        exact h2
    -- the attribute is passed over
    have skip : ∃ r : (List S92) × Bool, r.1.length ≤ 1048576 ∧ Ev (fun k => spec_l3Attrs.j1 k L (n : Int) acc (m : Int) p l true) r ∧ Ev (fun k => impl_attrNames.l0 k L (n : Int) acc (rd_T74 L (n : Int)).f3 ((rd_T74 L (n : Int)).f3.length : Int) (wrap64 ((m : Int) + 1))) r := by
      obtain ⟨r, hr0, h1, h2⟩ := ih (m + 1) acc (by omega) (by omega)
      refine ⟨r, hr0, Ev.step (fun k => by simp only [spec_l3Attrs.j1, if_true]; rw [hw]) h1, by rw [hw]; exact h2⟩
    have go : ∀ r : (List S92) × Bool, Ev (fun k => if p.toList = ([120, 109, 108, 110, 115] : List UInt8) then (spec_l3Attrs.j1 k L (n : Int) acc (m : Int) p l true) else (if p.toList = ([] : List UInt8) then (spec_l3Attrs.j1 k L (n : Int) acc (m : Int) p l (l.toList == ([120, 109, 108, 110, 115] : List UInt8))) else (spec_l3Attrs.j1 k L (n : Int) acc (m : Int) p l false))) r → Ev (fun k => spec_l3Attrs.l0 k L (n : Int) acc (m : Int)) r := by
      intro r hr
      refine Ev.step (f := fun k => (spec_Split.f k nm).bind fun bt212 => (if bt212.1.toList = ([120, 109, 108, 110, 115] : List UInt8) then (spec_l3Attrs.j1 k L (n : Int) acc (m : Int) bt212.1 bt212.2.1 true) else (if bt212.1.toList = ([] : List UInt8) then (spec_l3Attrs.j1 k L (n : Int) acc (m : Int) bt212.1 bt212.2.1 (bt212.2.1.toList == ([120, 109, 108, 110, 115] : List UInt8))) else (spec_l3Attrs.j1 k L (n : Int) acc (m : Int) bt212.1 bt212.2.1 false)))) (fun k => ?_) (Ev.bind hsp1 hr)
      simp only [spec_l3Attrs.l0]
      rw [if_pos (by omega), if_pos (cast_lt hn), if_pos (cast_lt hm2), if_pos (by omega), hg, hnm]
    have gi : ∀ (q : Bool) (r : (List S92) × Bool), ((if p.toList = ([120, 109, 108, 110, 115] : List UInt8) then (some true) else (if p.toList = ([] : List UInt8) then (some (l.toList == ([120, 109, 108, 110, 115] : List UInt8))) else (some false))) : Option Bool) = some q → Ev (fun k => if q = true then (impl_attrNames.l0 k L (n : Int) acc (rd_T74 L (n : Int)).f3 ((rd_T74 L (n : Int)).f3.length : Int) (wrap64 ((m : Int) + 1))) else ((impl_Split.f k nm).bind fun bt306 => (if bt306.1.toList = ([] : List UInt8) then ((impl_QName_91.f k acc (⟨#[]⟩ : ByteArray) bt306.2.1).bind fun t310 => (if t310 = true then (some (([] : List S92), false)) else (if acc.length < 4398046511104 then (impl_attrNames.l0 k L (n : Int) (acc ++ [(⟨(⟨#[]⟩ : ByteArray), bt306.2.1⟩ : S92)]) (rd_T74 L (n : Int)).f3 ((rd_T74 L (n : Int)).f3.length : Int) (wrap64 ((m : Int) + 1))) else (none)))) else ((impl_bound.f k L (n : Int) bt306.1).bind fun bt314 => (if bt314.2 = true then ((impl_QName_91.f k acc bt314.1 bt306.2.1).bind fun t316 => (if t316 = true then (some (([] : List S92), false)) else (if acc.length < 4398046511104 then (impl_attrNames.l0 k L (n : Int) (acc ++ [(⟨bt314.1, bt306.2.1⟩ : S92)]) (rd_T74 L (n : Int)).f3 ((rd_T74 L (n : Int)).f3.length : Int) (wrap64 ((m : Int) + 1))) else (none)))) else (some (([] : List S92), false))))))) r → Ev (fun k => impl_attrNames.l0 k L (n : Int) acc (rd_T74 L (n : Int)).f3 ((rd_T74 L (n : Int)).f3.length : Int) (m : Int)) r := by
      intro q r hq hr
      have hbind : Ev (fun k => impl_isBinding.f k nm) q := by
        unfold impl_isBinding.f
        refine Ev.bind hsp2 ?_
        simp only
        rw [hq]
        exact Ev.now _
      refine Ev.step (f := fun k => (impl_isBinding.f k nm).bind fun t305 => (if t305 = true then (impl_attrNames.l0 k L (n : Int) acc (rd_T74 L (n : Int)).f3 ((rd_T74 L (n : Int)).f3.length : Int) (wrap64 ((m : Int) + 1))) else ((impl_Split.f k nm).bind fun bt306 => (if bt306.1.toList = ([] : List UInt8) then ((impl_QName_91.f k acc (⟨#[]⟩ : ByteArray) bt306.2.1).bind fun t310 => (if t310 = true then (some (([] : List S92), false)) else (if acc.length < 4398046511104 then (impl_attrNames.l0 k L (n : Int) (acc ++ [(⟨(⟨#[]⟩ : ByteArray), bt306.2.1⟩ : S92)]) (rd_T74 L (n : Int)).f3 ((rd_T74 L (n : Int)).f3.length : Int) (wrap64 ((m : Int) + 1))) else (none)))) else ((impl_bound.f k L (n : Int) bt306.1).bind fun bt314 => (if bt314.2 = true then ((impl_QName_91.f k acc bt314.1 bt306.2.1).bind fun t316 => (if t316 = true then (some (([] : List S92), false)) else (if acc.length < 4398046511104 then (impl_attrNames.l0 k L (n : Int) (acc ++ [(⟨bt314.1, bt306.2.1⟩ : S92)]) (rd_T74 L (n : Int)).f3 ((rd_T74 L (n : Int)).f3.length : Int) (wrap64 ((m : Int) + 1))) else (none)))) else (some (([] : List S92), false)))))))) (fun k => ?_) (Ev.bind hbind hr)
      simp only [impl_attrNames.l0]
      rw [if_pos (cast_lt hm2), if_pos (by omega), if_pos (cast_lt hm2), hg, hnm]
    by_cases c1 : p.toList = ([120, 109, 108, 110, 115] : List UInt8)
    · obtain ⟨r, hr0, h1, h2⟩ := skip
      refine ⟨r, hr0, go r (by simp only [if_pos c1]; exact h1), gi true r (by rw [if_pos c1]) (by simp only [if_true]; exact h2)⟩
    by_cases c2 : p.toList = ([] : List UInt8)
    · cases c3 : (l.toList == ([120, 109, 108, 110, 115] : List UInt8)) with
      | true =>
        obtain ⟨r, hr0, h1, h2⟩ := skip
        refine ⟨r, hr0, go r (by simp only [if_neg c1, if_pos c2, c3]; exact h1), gi true r (by rw [if_neg c1, if_pos c2, c3]) (by simp only [if_true]; exact h2)⟩
      | false =>
        obtain ⟨r, hr0, h1, h2⟩ := tail (⟨#[]⟩ : ByteArray)
        refine ⟨r, hr0, go r ?_, gi false r (by rw [if_neg c1, if_pos c2, c3]) ?_⟩
        · simp only [if_neg c1, if_pos c2, c3]
          refine Ev.step (fun k => ?_) h1
          simp only [spec_l3Attrs.j1, Bool.false_eq_true, if_false]
          rw [if_pos c2]
        · simp only [Bool.false_eq_true, if_false]
          refine Ev.bind hsp2 ?_
          simp only [if_pos c2]
          exact h2
    · obtain ⟨⟨u, ok⟩, hb1, hb2⟩ := bound_f L p (by omega) hL hx hup n hn
      have hq : ((if p.toList = ([120, 109, 108, 110, 115] : List UInt8) then (some true) else (if p.toList = ([] : List UInt8) then (some (l.toList == ([120, 109, 108, 110, 115] : List UInt8))) else (some false))) : Option Bool) = some false := by rw [if_neg c1, if_neg c2]
      cases ok with
      | true =>
        obtain ⟨r, hr0, h1, h2⟩ := tail u
        refine ⟨r, hr0, go r ?_, gi false r hq ?_⟩
        · simp only [if_neg c1, if_neg c2]
          refine Ev.step (f := fun k => (spec_l3Bound.f k L (n : Int) p).bind fun bt216 => (if bt216.2 = true then (spec_l3Attrs.j2 k L (n : Int) acc (m : Int) bt216.1 l) else (some (([] : List S92), false)))) (fun k => ?_) (Ev.bind hb1 ?_)
          · simp only [spec_l3Attrs.j1, Bool.false_eq_true, if_false]
            rw [if_neg c2]
          · simp only [if_true]
            exact h1
        · simp only [Bool.false_eq_true, if_false]
          refine Ev.bind hsp2 ?_
          simp only [if_neg c2]
          refine Ev.bind hb2 ?_
          simp only [if_true]
          exact h2
      | false =>
        refine ⟨([], false), Nat.zero_le _, go _ ?_, gi false _ hq ?_⟩
        · simp only [if_neg c1, if_neg c2]
          refine Ev.step (f := fun k => (spec_l3Bound.f k L (n : Int) p).bind fun bt216 => (if bt216.2 = true then (spec_l3Attrs.j2 k L (n : Int) acc (m : Int) bt216.1 l) else (some (([] : List S92), false)))) (fun k => ?_) (Ev.bind hb1 ?_)
          · simp only [spec_l3Attrs.j1, Bool.false_eq_true, if_false]
            rw [if_neg c2]
          · simp only [Bool.false_eq_true, if_false]
            exact Ev.now _
        · simp only [Bool.false_eq_true, if_false]
          refine Ev.bind hsp2 ?_
          simp only [if_neg c2]
          refine Ev.bind hb2 ?_
          simp only [Bool.false_eq_true, if_false]
          exact Ev.now _
theorem attrs_f (L : List S74) (hL : L.length ≤ 200) (hx : ∀ x ∈ L, smallI x) (hup : ∀ j, j < L.length → -1 ≤ (rd_T74 L (j : Int)).f0 ∧ (rd_T74 L (j : Int)).f0 < (j : Int)) (n : Nat) (hn : n < L.length) (hz : (rd_T74 L (n : Int)).f3.length ≤ 1048576) (hzn : ∀ y ∈ (rd_T74 L (n : Int)).f3, y.f0.size ≤ 1048576) : ∃ r : (List S92) × Bool, r.1.length ≤ 1048576 ∧ Ev (fun k => spec_l3Attrs.f k L (n : Int)) r ∧ Ev (fun k => impl_attrNames.f k L (n : Int)) r := by
  obtain ⟨r, hr, h1, h2⟩ := attrs_ev L hL hx hup n hn hz hzn (rd_T74 L (n : Int)).f3.length 0 [] (by omega) (by simp)
  refine ⟨r, hr, h1, ?_⟩
  unfold impl_attrNames.f
  simp only [if_pos (show (0 : Int) ≤ (n : Int) by omega), if_pos (cast_lt hn)]
  exact h2
end Go.Proofs.YtbhklkpjjpkblaaDoor.PI
namespace Go.Proofs.YtbhklkpjjpkblaaDoor.Pure
open Go.RowKit Go.Proofs.YtbhklkpjjpkblaaDoor.PI Go.Proofs.YtbhklkpjjpkblaaDoorW.PrintWords Go.Proofs.YtbhklkpjjpkblaaDoorW.PrintLast
set_option linter.unusedVariables false
set_option linter.unusedSimpArgs false
theorem item_bounds (l : List S71) (hsm : ∀ x ∈ l.map cvI, smallI x) (m : Nat) (hm : m < (l.map cvI).length) : (rd_T74 (l.map cvI) (m : Int)).f3.length ≤ 1048576 ∧ (∀ y ∈ (rd_T74 (l.map cvI) (m : Int)).f3, y.f0.size ≤ 1048576) ∧ (rd_T74 (l.map cvI) (m : Int)).f1.size ≤ 1048576 := by
  rw [getII _ m hm]
  have h := hsm _ (List.getElem_mem hm)
  exact ⟨h.2.2.1, fun y hy => (h.2.2.2 y hy).1, h.1⟩
theorem FnExactNamesOf : laws_FnExactNamesOf.Pure := by
  intro l hl hw
  refine Ev.rounds (r := true) ?_
  unfold laws_FnExactNamesOf.f
  have hok : ∀ y ∈ l, okI y := fun y hy => okI_of (hw y hy)
  obtain ⟨t, ht, hs⟩ := szItemS_ev l (by omega) hok
  refine Ev.bind ht ?_
  by_cases c : t < 0
  · simp only [c, if_true]
    exact Ev.now _
  simp only [c, if_false]
  have hsum := hs (by omega)
  have hsm := small_of (l := l.map cvI) (by omega)
  have ha : ∀ y ∈ l, y.f3.length ≤ 1048576 := fun y hy => by
    have := (hsm (cvI y) (List.mem_map_of_mem hy)).2.2.1
    unfold cvI at this
    simpa using this
  have hto := toItemS_ev l (by omega) ha
  have hlm : (l.map cvI).length ≤ 1048576 := by rw [List.length_map]; omega
  have both : ∃ (r : List S92) (q : Bool), r.length ≤ 1048576 ∧ Ev (fun k => spec_NamesOf.f k (l.map cvI)) (r, q) ∧ Ev (fun k => impl_NamesOf.f k (l.map cvI)) (r, q) := by
    have hd := spec_DocOk_ev _ hlm hsm (by omega)
    have hh := impl_DocOk_ev _ hlm hsm (by omega)
    unfold spec_NamesOf.f impl_NamesOf.f
    cases hdb : docB (l.map cvI) with
    | false =>
      rw [hdb] at hd hh
      refine ⟨[], false, by simp, Ev.bind hd ?_, Ev.bind hh ?_⟩
      · simp only [Bool.false_eq_true, if_false]; exact Ev.now _
      · simp only [Bool.false_eq_true, if_false]; exact Ev.now _
    | true =>
      rw [hdb] at hd hh
      have hlen := docB_length _ hdb
      have hup := docB_up _ hdb
      have loop : ∀ d m (acc : List S92), m + d = (l.map cvI).length → acc.length ≤ m → ∃ (r : List S92) (q : Bool), r.length ≤ 1048576 ∧ Ev (fun k => spec_NamesOf.l0 k (l.map cvI) acc (m : Int)) (r, q) ∧ Ev (fun k => impl_NamesOf.l0 k (l.map cvI) acc (l.map cvI) ((l.map cvI).length : Int) (m : Int)) (r, q) := by
        intro d
        induction d with
        | zero =>
          intro m acc hm hacc
          refine ⟨acc, true, by omega, Ev.later fun k => ?_, Ev.later fun k => ?_⟩
          · simp only [spec_NamesOf.l0]
            rw [if_neg (cast_nlt (by omega))]
          · simp only [impl_NamesOf.l0]
            rw [if_neg (cast_nlt (by omega))]
        | succ d ih =>
          intro m acc hm hacc
          have hm2 : m < (l.map cvI).length := by omega
          have hw1 : wrap64 ((m : Int) + 1) = ((m + 1 : Nat) : Int) := by rw [wrap_succ (n := (l.map cvI).length) (by omega) (cast_lt hm2) (by omega)]; rfl
          have push : ∀ v : S92, ∃ (r : List S92) (q : Bool), r.length ≤ 1048576 ∧ Ev (fun k => if acc.length < 4398046511104 then (spec_NamesOf.l0 k (l.map cvI) (acc ++ [v]) (wrap64 ((m : Int) + 1))) else none) (r, q) ∧ Ev (fun k => if acc.length < 4398046511104 then (impl_NamesOf.l0 k (l.map cvI) (acc ++ [v]) (l.map cvI) ((l.map cvI).length : Int) (wrap64 ((m : Int) + 1))) else none) (r, q) := by
            intro v
            obtain ⟨r, q, hr, h1, h2⟩ := ih (m + 1) (acc ++ [v]) (by omega) (by rw [List.length_append]; simp only [List.length_cons, List.length_nil]; omega)
            refine ⟨r, q, hr, ?_, ?_⟩
            · simp only [if_pos (show acc.length < 4398046511104 by omega), hw1]; exact h1
            · simp only [if_pos (show acc.length < 4398046511104 by omega), hw1]; exact h2
          by_cases c : (rd_T74 (l.map cvI) (m : Int)).f1.toList = ([] : List UInt8)
          · obtain ⟨r, q, hr, h1, h2⟩ := push ⟨(⟨#[]⟩ : ByteArray), (⟨#[]⟩ : ByteArray)⟩
            refine ⟨r, q, hr, Ev.step (fun k => ?_) h1, Ev.step (fun k => ?_) h2⟩
            · simp only [spec_NamesOf.l0]
              rw [if_pos (cast_lt hm2), if_pos (by omega), if_pos c]
            · simp only [impl_NamesOf.l0]
              rw [if_pos (cast_lt hm2), if_pos (by omega), if_pos (cast_lt hm2), if_pos c]
          · obtain ⟨hz, hzn, hnm⟩ := item_bounds l hsm m hm2
            have hs1 := spec_Split_ev (rd_T74 (l.map cvI) (m : Int)).f1 (by omega)
            have hs2 := impl_Split_ev (rd_T74 (l.map cvI) (m : Int)).f1 (by omega)
            have hps := split_size (rd_T74 (l.map cvI) (m : Int)).f1 (by omega)
            generalize splitF (rd_T74 (l.map cvI) (m : Int)).f1 = sf at hs1 hs2 hps
            obtain ⟨p, lo, b⟩ := sf
            replace hps : p.size ≤ 140737488351232 := hps
            obtain ⟨⟨u, ok⟩, hb1, hb2⟩ := bound_f (l.map cvI) p hps hlen hsm hup m hm2
            obtain ⟨⟨at_, fine⟩, _, ha1, ha2⟩ := attrs_f (l.map cvI) hlen hsm hup m hm2 hz hzn
            have fin : ∃ (r : List S92) (q : Bool), r.length ≤ 1048576 ∧ Ev (fun k => (if ok = true then (if fine = true then (if acc.length < 4398046511104 then (spec_NamesOf.l0 k (l.map cvI) (acc ++ [(⟨u, lo⟩ : S92)]) (wrap64 ((m : Int) + 1))) else (none)) else (some (([] : List S92), false))) else (some (([] : List S92), false)))) (r, q) ∧ Ev (fun k => (if ok = true then (if fine = true then (if acc.length < 4398046511104 then (impl_NamesOf.l0 k (l.map cvI) (acc ++ [(⟨u, lo⟩ : S92)]) (l.map cvI) ((l.map cvI).length : Int) (wrap64 ((m : Int) + 1))) else (none)) else (some (([] : List S92), false))) else (some (([] : List S92), false)))) (r, q) := by
              cases ok with
              | false => exact ⟨[], false, by simp, by simp only [Bool.false_eq_true, if_false]; exact Ev.now _, by simp only [Bool.false_eq_true, if_false]; exact Ev.now _⟩
              | true =>
                cases fine with
                | false => exact ⟨[], false, by simp, by simp only [Bool.false_eq_true, if_false, if_true]; exact Ev.now _, by simp only [Bool.false_eq_true, if_false, if_true]; exact Ev.now _⟩
                | true =>
                  obtain ⟨r, q, hr, h1, h2⟩ := push ⟨u, lo⟩
                  exact ⟨r, q, hr, by simp only [if_true]; exact h1, by simp only [if_true]; exact h2⟩
            obtain ⟨r, q, hr, h1, h2⟩ := fin
            refine ⟨r, q, hr, Ev.step (f := fun k => (spec_Split.f k (rd_T74 (l.map cvI) (m : Int)).f1).bind fun bt381 => ((spec_l3Bound.f k (l.map cvI) (m : Int) bt381.1).bind fun bt384 => ((spec_l3Attrs.f k (l.map cvI) (m : Int)).bind fun bt386 => (if bt384.2 = true then (if bt386.2 = true then (if acc.length < 4398046511104 then (spec_NamesOf.l0 k (l.map cvI) (acc ++ [(⟨bt384.1, bt381.2.1⟩ : S92)]) (wrap64 ((m : Int) + 1))) else (none)) else (some (([] : List S92), false))) else (some (([] : List S92), false)))))) (fun k => ?_) (Ev.bind hs1 (Ev.bind hb1 (Ev.bind ha1 h1))), Ev.step (f := fun k => (impl_Split.f k (rd_T74 (l.map cvI) (m : Int)).f1).bind fun bt403 => ((impl_bound.f k (l.map cvI) (m : Int) bt403.1).bind fun bt406 => ((impl_attrNames.f k (l.map cvI) (m : Int)).bind fun bt408 => (if bt406.2 = true then (if bt408.2 = true then (if acc.length < 4398046511104 then (impl_NamesOf.l0 k (l.map cvI) (acc ++ [(⟨bt406.1, bt403.2.1⟩ : S92)]) (l.map cvI) ((l.map cvI).length : Int) (wrap64 ((m : Int) + 1))) else (none)) else (some (([] : List S92), false))) else (some (([] : List S92), false)))))) (fun k => ?_) (Ev.bind hs2 (Ev.bind hb2 (Ev.bind ha2 h2)))⟩
            · simp only [spec_NamesOf.l0]
              rw [if_pos (cast_lt hm2), if_pos (by omega), if_neg c]
            · simp only [impl_NamesOf.l0]
              rw [if_pos (cast_lt hm2), if_pos (by omega), if_pos (cast_lt hm2), if_neg c]
      obtain ⟨r, q, hr, h1, h2⟩ := loop (l.map cvI).length 0 [] (by omega) (by simp)
      refine ⟨r, q, hr, Ev.bind hd ?_, Ev.bind hh ?_⟩
      · simp only [if_true]; exact h1
      · simp only [if_true]; exact h2
  obtain ⟨r, q, hr, h1, h2⟩ := both
  obtain ⟨tm, hm, hm0⟩ := markI (l.map cvI) (by rw [List.length_map]; omega)
  have he := eqQNameS_self r (by omega)
  have q0 : ¬ (2 * (r.length : Int) + 1 < 0) := by omega
  refine Ev.bind hto (Ev.bind h1 (Ev.bind hto (Ev.bind h2 (Ev.bind he ?_))))
  simp only [if_true, bne_self_eq_false]
  refine Ev.step (f := ?fa) (fun k => ?a) ?b
  case a => simp only [laws_FnExactNamesOf.j0, Bool.false_eq_true, if_false]; rfl
  case b =>
    refine Ev.bind hto (Ev.bind (eqItemS_self _ hlm (fun y hy => (hsm y hy).2.2.1)) ?_)
    simp only [if_true, hm, Option.bind_some, hm0, if_false]
    refine Ev.bind he ?_
    simp only [if_true, bne_self_eq_false]
    refine Ev.step (f := ?fc) (fun k => ?c) ?d
    case c => simp only [laws_FnExactNamesOf.j1, Bool.false_eq_true, if_false]; rfl
    case d =>
      refine Ev.bind (markQNameS_ev r (by omega)) (Ev.bind (heldQNameS_ev _ (by omega)) ?_)
      simp only [q0, if_false, if_true]
      refine Ev.bind hto (Ev.bind h2 (Ev.bind he ?_))
      simp only [if_true, bne_self_eq_false]
      refine Ev.step (f := ?fe) (fun k => ?e) ?g
      case e => simp only [laws_FnExactNamesOf.j2, Bool.false_eq_true, if_false]; rfl
      case g =>
        refine Ev.bind (heldQNameS_ev _ (by omega)) ?_
        simp only [q0, if_false, if_true]
        exact Ev.now _
end Go.Proofs.YtbhklkpjjpkblaaDoor.Pure
