import Derived.Test.YtbhklkpjjpkblaaGreatDoorPPx0
import Derived.Test.YtbhklkpjjpkblaaGreatDoorPPx1
import Derived.Test.YtbhklkpjjpkblaaGreatDoorPPx8
import Derived.Test.YtbhklkpjjpkblaaGreatDoorPPx7
import Derived.Test.YtbhklkpjjpkblaaGreatDoorPPx15
import Derived.Test.YtbhklkpjjpkblaaGreatDoorPPx16
import Derived.Test.YtbhklkpjjpkblaaGreatDoorPPx2
import Derived.Lib.ValidU
import Derived.Lib.TrimUEq
import Derived.Lib.MapLaws
import Derived.Test.YtbhklkpjjpkblaaGreatDoorPPx3
import Derived.Test.YtbhklkpjjpkblaaGreatDoorPPx9
import Derived.Test.YtbhklkpjjpkblaaGreatDoorPPx10
import Derived.Test.YtbhklkpjjpkblaaGreatDoorPPx4
import Derived.Test.YtbhklkpjjpkblaaGreatDoorPPx11
import Derived.Test.YtbhklkpjjpkblaaGreatDoorPPx12
import Derived.Test.YtbhklkpjjpkblaaGreatDoorPPx5
import Derived.Test.YtbhklkpjjpkblaaGreatDoorPPx13
import Derived.Lib.Strings
import Derived.Test.YtbhklkpjjpkblaaGreatDoorPPx14
import Derived.Test.YtbhklkpjjpkblaaGreatDoorPPx6
namespace Go.Proofs.YtbhklkpjjpkblaaGreatDoor.PP
open Go.RowKit Go.Proofs.YtbhklkpjjpkblaaGreatDoorW.PrintWords
set_option linter.unusedVariables false
set_option linter.unusedSimpArgs false
/- Small words on numbers, rounds and bytes. -/
theorem w64 {x : Int} (h : -9223372036854775808 ≤ x) (h2 : x ≤ 9223372036854775807) : wrap64 x = x := by
  unfold wrap64
  omega
theorem Ev.const {α : Type} {g : Nat → Option α} {r : α} (h : ∀ k, g k = some r) : Ev g r := ⟨0, fun k _ => h k⟩
theorem Ev.later {α : Type} {g : Nat → Option α} {r : α} (h : ∀ k, g (k + 1) = some r) : Ev g r := by
  refine ⟨1, fun k hk => ?_⟩
  obtain ⟨m, rfl⟩ : ∃ m, k = m + 1 := ⟨k - 1, by omega⟩
  exact h m
def inR (a l h : Int) : Bool := decide (l ≤ a ∧ a ≤ h)
theorem wrap_succ {i : Int} {n : Nat} (h0 : 0 ≤ i) (h : i < (n : Int)) (hn : n ≤ 140737488355328) : wrap64 (i + 1) = i + 1 := w64 (by omega) (by omega)
theorem bytes_drop (s : ByteArray) (n : Nat) (h : n < s.size) : (bytesOf s).drop n = bt s (n : Int) :: (bytesOf s).drop (n + 1) := by
  have hl : n < (bytesOf s).length := by rw [bytesOf_length]; exact h
  rw [List.drop_eq_getElem_cons hl]
  congr 1
  have := rd_bytesOf s (n : Int)
  unfold rd at this
  rw [← this]
  simp [List.getD_eq_getElem?_getD, hl]
theorem bytes_drop_end (s : ByteArray) (n : Nat) (h : s.size ≤ n) : (bytesOf s).drop n = [] := List.drop_eq_nil_of_le (by rw [bytesOf_length]; exact h)
theorem cast_lt {a b : Nat} (h : a < b) : (a : Int) < (b : Int) := by omega
theorem cast_nlt {a b : Nat} (h : b ≤ a) : ¬ (a : Int) < (b : Int) := by omega
theorem toList_eq' (s : ByteArray) : s.toList = s.data.toList := ByteArray.toList_eq s
theorem bytes_inj {s t : ByteArray} (h : s.toList = t.toList) : s = t := by
  rw [toList_eq', toList_eq'] at h
  apply ByteArray.ext
  apply Array.ext'
  exact h
theorem list_drop (l : List Int) (n : Nat) (h : n < l.length) : l.drop n = rd l (n : Int) :: l.drop (n + 1) := by
  rw [List.drop_eq_getElem_cons h]
  congr 1
  unfold rd
  simp [List.getD_eq_getElem?_getD, h]
theorem set_next {α : Type} (l r : List α) (n : Nat) (v d : α) (hn : n = l.length) (hr : 0 < r.length) : (l ++ r).set n v = (l ++ [v]) ++ r.tail := by
  subst hn
  cases r with
  | nil => simp at hr
  | cons a r => simp
end Go.Proofs.YtbhklkpjjpkblaaGreatDoor.PP
namespace Go.Proofs.YtbhklkpjjpkblaaGreatDoor.PP
open Go.RowKit Go.Proofs.YtbhklkpjjpkblaaGreatDoorW.PrintWords
set_option linter.unusedVariables false
set_option linter.unusedSimpArgs false
theorem spec_l1In_eq (a l h : Int) : spec_l1In.f a l h = some (inR a l h) := by
  unfold spec_l1In.f inR
  by_cases c : a ≥ l
  · rw [if_pos c]; simp [show l ≤ a from c]
  · rw [if_neg c]; simp [show ¬ l ≤ a from c]
theorem impl_in_eq (a l h : Int) : impl_in.f a l h = some (inR a l h) := by
  unfold impl_in.f inR
  by_cases c : l ≤ a
  · rw [if_pos c]; simp [c]
  · rw [if_neg c]; simp [c]
end Go.Proofs.YtbhklkpjjpkblaaGreatDoor.PP
namespace Go.Proofs.YtbhklkpjjpkblaaGreatDoor.PP
open Go.RowKit Go.Proofs.YtbhklkpjjpkblaaGreatDoorW.PrintWords Go.Proofs.YtbhklkpjjpkblaaGreatDoorW.PrintMore
set_option linter.unusedVariables false
set_option linter.unusedSimpArgs false
def wA (x : S52) : Nat := x.f0.size + x.f1.size
def wAs (l : List S52) : Nat := (l.map wA).sum
def wI (x : S39) : Nat := x.f1.size + x.f2.size + x.f3.length + wAs x.f3
def wIs (l : List S39) : Nat := (l.map wI).sum
def cvA (x : S70) : S52 := ⟨x.f0, x.f1⟩
def cvI (x : S33) : S39 := ⟨x.f0, x.f1, x.f2, x.f3.map cvA⟩
theorem wAs_cons (x : S52) (l : List S52) : wAs (x :: l) = wA x + wAs l := by simp [wAs]
theorem wIs_cons (x : S39) (l : List S39) : wIs (x :: l) = wI x + wIs l := by simp [wIs]
def okA (x : S70) : Prop := x.f0.size ≤ 140737488351232 ∧ x.f1.size ≤ 140737488351232
def okI (x : S33) : Prop := x.f1.size ≤ 140737488351232 ∧ x.f2.size ≤ 140737488351232 ∧ x.f3.length ≤ 140737488351232 ∧ ∀ y ∈ x.f3, okA y
theorem getLA (l : List S70) (n : Nat) (h : n < l.length) : rd_T70 l (n : Int) = l[n] := by unfold rd_T70; simp [List.getD_eq_getElem?_getD, h]
theorem getLI (l : List S33) (n : Nat) (h : n < l.length) : rd_T33 l (n : Int) = l[n] := by unfold rd_T33; simp [List.getD_eq_getElem?_getD, h]
theorem getIA (l : List S52) (n : Nat) (h : n < l.length) : rd_T52 l (n : Int) = l[n] := by unfold rd_T52; simp [List.getD_eq_getElem?_getD, h]
theorem getII (l : List S39) (n : Nat) (h : n < l.length) : rd_T39 l (n : Int) = l[n] := by unfold rd_T39; simp [List.getD_eq_getElem?_getD, h]
theorem szAttr_at (x : S70) (a : Int) (h0 : 0 ≤ a) (h1 : a ≤ 1048576) (hx : okA x) : ∃ t, laws_szAttr.f x.f0 x.f1 a = some t ∧ (0 ≤ t → t + wA (cvA x) = a) := by
  have hx1 := hx.1
  have hx2 := hx.2
  unfold laws_szAttr.f wA cvA
  rw [w64 (x := a - (x.f0.size : Int)) (by omega) (by omega), w64 (x := a - (x.f0.size : Int) - (x.f1.size : Int)) (by omega) (by omega)]
  by_cases c : a - (x.f0.size : Int) < 0
  · exact ⟨-1, by rw [if_pos c], by omega⟩
  rw [if_neg c]
  by_cases d : a - (x.f0.size : Int) - (x.f1.size : Int) < 0
  · exact ⟨-1, by rw [if_pos d], by omega⟩
  · exact ⟨_, by rw [if_neg d], fun _ => by simp only []; omega⟩
theorem szAttrS_l0 (l : List S70) (hl : l.length ≤ 140737488351232) (hx : ∀ y ∈ l, okA y) : ∀ (d n : Nat) (a : Int), n + d = l.length → 0 ≤ a → a ≤ 1048576 → ∃ t, Ev (fun k => laws_szAttrS.l0 k l a (n : Int)) t ∧ (0 ≤ t → t + wAs ((l.drop n).map cvA) = a) := by
  intro d
  induction d with
  | zero =>
    intro n a hn h0 h1
    refine ⟨a, Ev.later fun k => ?_, fun _ => ?_⟩
    · simp only [laws_szAttrS.l0]
      rw [if_neg (cast_nlt (by omega))]
    · rw [List.drop_eq_nil_of_le (by omega)]
      simp [wAs]
  | succ d ih =>
    intro n a hn h0 h1
    have hn2 : n < l.length := by omega
    obtain ⟨t, ht, hs⟩ := szAttr_at l[n] a h0 h1 (hx _ (List.getElem_mem _))
    by_cases c : t < 0
    · refine ⟨-1, Ev.later fun k => ?_, by omega⟩
      simp only [laws_szAttrS.l0]
      rw [if_pos (cast_lt hn2), if_pos (by omega), getLA _ _ hn2, ht, Option.bind_some, if_pos c]
    · obtain ⟨u, hu, hs2⟩ := ih (n + 1) t (by omega) (by omega) (by have := hs (by omega); omega)
      refine ⟨u, Ev.step (fun k => ?_) hu, fun h => ?_⟩
      · simp only [laws_szAttrS.l0]
        rw [if_pos (cast_lt hn2), if_pos (by omega), getLA _ _ hn2, ht, Option.bind_some, if_neg c, wrap_succ (n := l.length) (by omega) (cast_lt hn2) (by omega)]
        rfl
      · rw [List.drop_eq_getElem_cons hn2, List.map_cons, wAs_cons]
        have := hs (by omega)
        have := hs2 h
        omega
theorem szItem_ev (x : S33) (a : Int) (h0 : 0 ≤ a) (h1 : a ≤ 1048576) (hx : okI x) : ∃ t, Ev (fun k => laws_szItem.f k x.f0 x.f1 x.f2 x.f3 a) t ∧ (0 ≤ t → t + wI (cvI x) = a) := by
  obtain ⟨hx1, hx2, hx3, hx4⟩ := hx
  unfold laws_szItem.f laws_szAttrS.f wI cvI
  rw [w64 (x := a - (x.f1.size : Int)) (by omega) (by omega), w64 (x := a - (x.f1.size : Int) - (x.f2.size : Int)) (by omega) (by omega)]
  by_cases c : a - (x.f1.size : Int) < 0
  · exact ⟨-1, by simp only [c, if_true]; exact Ev.now _, by omega⟩
  simp only [c, if_false]
  by_cases d : a - (x.f1.size : Int) - (x.f2.size : Int) < 0
  · exact ⟨-1, by simp only [d, if_true]; exact Ev.now _, by omega⟩
  simp only [d, if_false]
  rw [w64 (x := a - (x.f1.size : Int) - (x.f2.size : Int) - (x.f3.length : Int)) (by omega) (by omega)]
  by_cases e : a - (x.f1.size : Int) - (x.f2.size : Int) - (x.f3.length : Int) < 0
  · exact ⟨-1, by simp only [e, if_true, Option.bind_some, show ((-1 : Int) < 0) = True from eq_true (by decide)]; exact Ev.now _, by omega⟩
  simp only [e, if_false]
  obtain ⟨t, ht, hs⟩ := szAttrS_l0 x.f3 hx3 hx4 x.f3.length 0 (a - (x.f1.size : Int) - (x.f2.size : Int) - (x.f3.length : Int)) (by omega) (by omega) (by omega)
  by_cases f : t < 0
  · exact ⟨-1, Ev.bind (a := t) ht (by simp only [f, if_true]; exact Ev.now _), by omega⟩
  · refine ⟨t, Ev.bind (a := t) ht (by simp only [f, if_false]; exact Ev.now _), fun h => ?_⟩
    have := hs h
    rw [List.drop_zero] at this
    simp only [List.length_map]
    omega
theorem szItemS_l0 (l : List S33) (hl : l.length ≤ 140737488351232) (hx : ∀ y ∈ l, okI y) : ∀ (d n : Nat) (a : Int), n + d = l.length → 0 ≤ a → a ≤ 1048576 → ∃ t, Ev (fun k => laws_szItemS.l0 k l a (n : Int)) t ∧ (0 ≤ t → t + wIs ((l.drop n).map cvI) = a) := by
  intro d
  induction d with
  | zero =>
    intro n a hn h0 h1
    refine ⟨a, Ev.later fun k => ?_, fun _ => ?_⟩
    · simp only [laws_szItemS.l0]
      rw [if_neg (cast_nlt (by omega))]
    · rw [List.drop_eq_nil_of_le (by omega)]
      simp [wIs]
  | succ d ih =>
    intro n a hn h0 h1
    have hn2 : n < l.length := by omega
    obtain ⟨t, ht, hs⟩ := szItem_ev l[n] a h0 h1 (hx _ (List.getElem_mem _))
    have step : ∀ k, laws_szItemS.l0 (k + 1) l a (n : Int) = (laws_szItem.f k l[n].f0 l[n].f1 l[n].f2 l[n].f3 a).bind fun t107 => (if t107 < 0 then (some (-1)) else (laws_szItemS.l0 k l t107 ((n + 1 : Nat) : Int))) := fun k => by
      simp only [laws_szItemS.l0]
      rw [if_pos (cast_lt hn2), if_pos (by omega), getLI _ _ hn2, wrap_succ (n := l.length) (by omega) (cast_lt hn2) (by omega)]
      rfl
    by_cases c : t < 0
    · refine ⟨-1, Ev.step step (Ev.bind (a := t) ht ?_), by omega⟩
      simp only [c, if_true]
      exact Ev.now _
    · obtain ⟨u, hu, hs2⟩ := ih (n + 1) t (by omega) (by omega) (by have := hs (by omega); omega)
      refine ⟨u, Ev.step step (Ev.bind (a := t) ht ?_), fun h => ?_⟩
      · simp only [c, if_false]
        exact hu
      · rw [List.drop_eq_getElem_cons hn2, List.map_cons, wIs_cons]
        have := hs (by omega)
        have := hs2 h
        omega
theorem szItemS_ev (l : List S33) (hl : l.length ≤ 140737488351232) (hx : ∀ y ∈ l, okI y) : ∃ t, Ev (fun k => laws_szItemS.f k l 1048576) t ∧ (0 ≤ t → l.length + wIs (l.map cvI) ≤ 1048576) := by
  unfold laws_szItemS.f
  rw [w64 (x := 1048576 - (l.length : Int)) (by omega) (by omega)]
  by_cases c : (1048576 : Int) - (l.length : Int) < 0
  · exact ⟨-1, by simp only [c, if_true]; exact Ev.now _, by omega⟩
  · simp only [c, if_false]
    obtain ⟨t, ht, hs⟩ := szItemS_l0 l hl hx l.length 0 (1048576 - (l.length : Int)) (by omega) (by omega) (by omega)
    refine ⟨t, ht, fun h => ?_⟩
    have := hs h
    rw [List.drop_zero] at this
    omega
theorem toAttrS_l0_ev (l : List S70) (hl : l.length ≤ 1048576) : ∀ (d n : Nat) (r : List S52), n + d = l.length → r.length = d → Ev (fun k => laws_toAttrS.l0 k l ((l.take n).map cvA ++ r) (n : Int)) (l.map cvA) := by
  intro d
  induction d with
  | zero =>
    intro n r hn hr
    refine Ev.later fun k => ?_
    simp only [laws_toAttrS.l0]
    rw [if_neg (cast_nlt (by omega))]
    have : r = [] := List.eq_nil_of_length_eq_zero hr
    subst this
    rw [List.append_nil, List.take_of_length_le (by omega)]
  | succ d ih =>
    intro n r hn hr
    have hn2 : n < l.length := by omega
    have hlen : ((l.take n).map cvA ++ r).length = l.length := by rw [List.length_append, List.length_map, List.length_take]; omega
    have hsub := ih (n + 1) r.tail (by omega) (by rw [List.length_tail]; omega)
    rw [List.take_succ_eq_append_getElem hn2, List.map_append] at hsub
    refine Ev.step (fun k => ?_) hsub
    simp only [laws_toAttrS.l0]
    rw [if_pos (cast_lt hn2), if_pos (by omega), getLA _ _ hn2, hlen, wrap_succ (n := l.length) (by omega) (cast_lt hn2) (by omega)]
    simp only [if_pos (cast_lt hn2), Int.toNat_natCast, laws_toAttr.f, Option.bind_some]
    rw [set_next ((l.take n).map cvA) r n _ z52 (by rw [List.length_map, List.length_take]; omega) (by omega)]
    rfl
theorem toAttrS_ev (l : List S70) (hl : l.length ≤ 1048576) : Ev (fun k => laws_toAttrS.f k l) (l.map cvA) := by
  unfold laws_toAttrS.f
  simp only [show ((0 : Int) ≤ (l.length : Int)) = True from eq_true (by omega), if_true, Int.toNat_natCast, show (l.length ≤ 8796093022208) = True from eq_true (by omega)]
  have := toAttrS_l0_ev l hl l.length 0 (List.replicate l.length z52) (by omega) (by simp)
  simpa using this
theorem toItemS_l0_ev (l : List S33) (hl : l.length ≤ 1048576) (ha : ∀ y ∈ l, y.f3.length ≤ 1048576) : ∀ (d n : Nat) (r : List S39), n + d = l.length → r.length = d → Ev (fun k => laws_toItemS.l0 k l ((l.take n).map cvI ++ r) (n : Int)) (l.map cvI) := by
  intro d
  induction d with
  | zero =>
    intro n r hn hr
    refine Ev.later fun k => ?_
    simp only [laws_toItemS.l0]
    rw [if_neg (cast_nlt (by omega))]
    have : r = [] := List.eq_nil_of_length_eq_zero hr
    subst this
    rw [List.append_nil, List.take_of_length_le (by omega)]
  | succ d ih =>
    intro n r hn hr
    have hn2 : n < l.length := by omega
    have hlen : ((l.take n).map cvI ++ r).length = l.length := by rw [List.length_append, List.length_map, List.length_take]; omega
    have hsub := ih (n + 1) r.tail (by omega) (by rw [List.length_tail]; omega)
    rw [List.take_succ_eq_append_getElem hn2, List.map_append] at hsub
    refine Ev.step (f := fun k => (laws_toAttrS.f k l[n].f3).bind fun t => laws_toItemS.l0 k l (((l.take n).map cvI ++ r).set n (⟨l[n].f0, l[n].f1, l[n].f2, t⟩ : S39)) ((n + 1 : Nat) : Int)) (fun k => ?_) (Ev.bind (toAttrS_ev l[n].f3 (ha _ (List.getElem_mem _))) ?_)
    · simp only [laws_toItemS.l0]
      rw [if_pos (cast_lt hn2), if_pos (by omega), getLI _ _ hn2, hlen, wrap_succ (n := l.length) (by omega) (cast_lt hn2) (by omega)]
      simp only [if_pos (cast_lt hn2), Int.toNat_natCast, laws_toItem.f, Option.bind_assoc, Option.bind_some]
      rfl
    · rw [set_next ((l.take n).map cvI) r n _ z39 (by rw [List.length_map, List.length_take]; omega) (by omega)]
      exact hsub
theorem toItemS_ev (l : List S33) (hl : l.length ≤ 1048576) (ha : ∀ y ∈ l, y.f3.length ≤ 1048576) : Ev (fun k => laws_toItemS.f k l) (l.map cvI) := by
  unfold laws_toItemS.f
  simp only [show ((0 : Int) ≤ (l.length : Int)) = True from eq_true (by omega), if_true, Int.toNat_natCast, show (l.length ≤ 4398046511104) = True from eq_true (by omega)]
  have := toItemS_l0_ev l hl ha l.length 0 (List.replicate l.length z39) (by omega) (by simp)
  simpa using this
theorem eqAttrS_self (l : List S52) (hl : l.length ≤ 1048576) : Ev (fun k => laws_eqAttrS.f k l l) true := by
  have main : ∀ d n, n + d = l.length → Ev (fun k => laws_eqAttrS.l0 k l l (n : Int)) true := by
    intro d
    induction d with
    | zero =>
      intro n hn
      refine Ev.later fun k => ?_
      simp only [laws_eqAttrS.l0]
      rw [if_neg (cast_nlt (by omega))]
    | succ d ih =>
      intro n hn
      have hn2 : n < l.length := by omega
      refine Ev.step (fun k => ?_) (ih (n + 1) (by omega))
      simp only [laws_eqAttrS.l0, laws_eqAttr.f]
      rw [if_pos (cast_lt hn2), if_pos (by omega), if_pos (cast_lt hn2), wrap_succ (n := l.length) (by omega) (cast_lt hn2) (by omega)]
      simp
  unfold laws_eqAttrS.f
  simp only [if_true]
  exact main l.length 0 (by omega)
theorem eqItemS_self (l : List S39) (hl : l.length ≤ 1048576) (ha : ∀ y ∈ l, y.f3.length ≤ 1048576) : Ev (fun k => laws_eqItemS.f k l l) true := by
  have main : ∀ d n, n + d = l.length → Ev (fun k => laws_eqItemS.l0 k l l (n : Int)) true := by
    intro d
    induction d with
    | zero =>
      intro n hn
      refine Ev.later fun k => ?_
      simp only [laws_eqItemS.l0]
      rw [if_neg (cast_nlt (by omega))]
    | succ d ih =>
      intro n hn
      have hn2 : n < l.length := by omega
      refine Ev.step (f := fun k => (laws_eqAttrS.f k l[n].f3 l[n].f3).bind fun t => if t = true then laws_eqItemS.l0 k l l ((n + 1 : Nat) : Int) else some false) (fun k => ?_) (Ev.bind (eqAttrS_self l[n].f3 (ha _ (List.getElem_mem _))) ?_)
      · simp only [laws_eqItemS.l0, laws_eqItem.f]
        rw [if_pos (cast_lt hn2), if_pos (by omega), if_pos (cast_lt hn2), getII _ _ hn2, wrap_succ (n := l.length) (by omega) (cast_lt hn2) (by omega)]
        simp only [if_true, Option.bind_assoc]
        congr 1
        funext t
        cases t <;> rfl
      · simp only [if_true]
        exact ih (n + 1) (by omega)
  unfold laws_eqItemS.f
  simp only [if_true]
  exact main l.length 0 (by omega)
theorem okI_of {x : S33} (h : WF33 x) : okI x := by
  obtain ⟨_, h1, h2, h3, h4⟩ := h
  exact ⟨h1, h2, by omega, fun y hy => h4 y hy⟩
end Go.Proofs.YtbhklkpjjpkblaaGreatDoor.PP
namespace Go.Proofs.YtbhklkpjjpkblaaGreatDoor.PP
open Go.RowKit Go.Proofs.YtbhklkpjjpkblaaGreatDoorW.PrintWords
set_option linter.unusedVariables false
set_option linter.unusedSimpArgs false
theorem l1Char_at (r : Int) : spec_l1Char.f r = some (decide ((0 ≤ r ∧ r ≤ 55295) ∨ (57344 ≤ r ∧ r ≤ 1114111))) := by
  unfold spec_l1Char.f
  simp only [spec_l1In_eq, Option.bind_some, inR]
  by_cases c : 0 ≤ r ∧ r ≤ 55295
  · rw [decide_eq_true c, if_pos rfl, decide_eq_true (Or.inl c)]
  · rw [decide_eq_false c, if_neg (by decide)]
    congr 1
    by_cases d : 57344 ≤ r ∧ r ≤ 1114111
    · rw [decide_eq_true d, decide_eq_true (Or.inr d)]
    · rw [decide_eq_false d, decide_eq_false (fun h => h.elim c d)]
theorem l1_step (k : Nat) (t : ByteArray) (x4 x5 x6 i : Int) (hi : i < x5) (h0 : 0 ≤ i) (hs : i < t.size) (hc : 128 ≤ bt t i ∧ bt t i < 192) (hx : 0 ≤ x4 ∧ x4 ≤ 100000000) (h5 : x5 ≤ 4) : spec_l1Rune.l0 (k + 1) t x4 x5 x6 i = spec_l1Rune.l0 k t (64 * x4 + bt t i % 64) x5 x6 (i + 1) := by
  simp only [spec_l1Rune.l0]
  rw [if_pos hi, if_pos h0, if_pos hs, if_neg (by omega), if_neg (by omega), Int.tmod_eq_emod_of_nonneg (by omega), w64 (x := 64 * x4) (by omega) (by omega), w64 (x := bt t i % 64) (by omega) (by omega), w64 (x := 64 * x4 + bt t i % 64) (by omega) (by omega), w64 (x := i + 1) (by omega) (by omega)]
theorem l1_bad (k : Nat) (t : ByteArray) (x4 x5 x6 i : Int) (hi : i < x5) (h0 : 0 ≤ i) (hs : i < t.size) (hc : ¬ (128 ≤ bt t i ∧ bt t i < 192)) : spec_l1Rune.l0 (k + 1) t x4 x5 x6 i = some (0, 0) := by
  simp only [spec_l1Rune.l0]
  rw [if_pos hi, if_pos h0, if_pos hs]
  by_cases c : bt t i < 128
  · rw [if_pos c]
  · rw [if_neg c, if_pos (by omega)]
theorem l1_end (k : Nat) (t : ByteArray) (x4 x5 x6 i : Int) (hi : ¬ i < x5) : spec_l1Rune.l0 (k + 1) t x4 x5 x6 i = some (if ¬ x4 < x6 ∧ ((0 ≤ x4 ∧ x4 ≤ 55295) ∨ (57344 ≤ x4 ∧ x4 ≤ 1114111)) then (x4, x5) else (0, 0)) := by
  simp only [spec_l1Rune.l0]
  rw [if_neg hi]
  by_cases c : x4 < x6
  · rw [if_pos c, if_neg (fun h => h.1 c)]
  · rw [if_neg c, l1Char_at, Option.bind_some]
    by_cases d : (0 ≤ x4 ∧ x4 ≤ 55295) ∨ (57344 ≤ x4 ∧ x4 ≤ 1114111)
    · rw [decide_eq_true d, if_pos rfl, if_pos ⟨c, d⟩]
    · rw [decide_eq_false d, if_neg (by decide), if_neg (fun h => d h.2)]
theorem decN2 {n b0 b1 b2 b3 : Nat} (h : 192 ≤ b0 ∧ b0 < 224) : Lib.decodeN n b0 b1 b2 b3 = if (1 < n ∧ b1 / 64 = 2) ∧ b0 % 32 * 64 + b1 % 64 ≥ 128 then (b0 % 32 * 64 + b1 % 64, 2) else (65533, 1) := by
  unfold Lib.decodeN
  rw [if_neg (by omega)]
  by_cases c : 1 < n ∧ b1 / 64 = 2
  · rw [if_pos ⟨by omega, c⟩]
    by_cases d : b0 % 32 * 64 + b1 % 64 ≥ 128
    · rw [if_pos d, if_pos ⟨c, d⟩]
    · rw [if_neg d, if_neg (fun h => d h.2)]
  · rw [if_neg (fun x => c x.2), if_neg (fun x => by have := x.1; omega), if_neg (fun x => by have := x.1; omega), if_neg (fun x => c x.1)]
theorem decN3 {n b0 b1 b2 b3 : Nat} (h : 224 ≤ b0 ∧ b0 < 240) : Lib.decodeN n b0 b1 b2 b3 = if ((1 < n ∧ b1 / 64 = 2) ∧ (2 < n ∧ b2 / 64 = 2)) ∧ (b0 % 16 * 4096 + b1 % 64 * 64 + b2 % 64 ≥ 2048 ∧ (b0 % 16 * 4096 + b1 % 64 * 64 + b2 % 64 < 55296 ∨ (57344 ≤ b0 % 16 * 4096 + b1 % 64 * 64 + b2 % 64 ∧ b0 % 16 * 4096 + b1 % 64 * 64 + b2 % 64 ≤ 1114111))) then (b0 % 16 * 4096 + b1 % 64 * 64 + b2 % 64, 3) else (65533, 1) := by
  unfold Lib.decodeN
  rw [if_neg (by omega), if_neg (fun x => by have := x.1; omega)]
  by_cases c : (1 < n ∧ b1 / 64 = 2) ∧ (2 < n ∧ b2 / 64 = 2)
  · rw [if_pos ⟨by omega, c⟩]
    by_cases d : b0 % 16 * 4096 + b1 % 64 * 64 + b2 % 64 ≥ 2048 ∧ (b0 % 16 * 4096 + b1 % 64 * 64 + b2 % 64 < 55296 ∨ (57344 ≤ b0 % 16 * 4096 + b1 % 64 * 64 + b2 % 64 ∧ b0 % 16 * 4096 + b1 % 64 * 64 + b2 % 64 ≤ 1114111))
    · rw [if_pos d, if_pos ⟨c, d⟩]
    · rw [if_neg d, if_neg (fun h => d h.2)]
  · rw [if_neg (fun x => c x.2), if_neg (fun x => by have := x.1; omega), if_neg (fun x => c x.1)]
theorem decN4 {n b0 b1 b2 b3 : Nat} (h : 240 ≤ b0 ∧ b0 < 248) : Lib.decodeN n b0 b1 b2 b3 = if ((1 < n ∧ b1 / 64 = 2) ∧ (2 < n ∧ b2 / 64 = 2) ∧ (3 < n ∧ b3 / 64 = 2)) ∧ (b0 % 8 * 262144 + b1 % 64 * 4096 + b2 % 64 * 64 + b3 % 64 ≥ 65536 ∧ (b0 % 8 * 262144 + b1 % 64 * 4096 + b2 % 64 * 64 + b3 % 64 < 55296 ∨ (57344 ≤ b0 % 8 * 262144 + b1 % 64 * 4096 + b2 % 64 * 64 + b3 % 64 ∧ b0 % 8 * 262144 + b1 % 64 * 4096 + b2 % 64 * 64 + b3 % 64 ≤ 1114111))) then (b0 % 8 * 262144 + b1 % 64 * 4096 + b2 % 64 * 64 + b3 % 64, 4) else (65533, 1) := by
  unfold Lib.decodeN
  rw [if_neg (by omega), if_neg (fun x => by have := x.1; omega), if_neg (fun x => by have := x.1; omega)]
  by_cases c : (1 < n ∧ b1 / 64 = 2) ∧ (2 < n ∧ b2 / 64 = 2) ∧ (3 < n ∧ b3 / 64 = 2)
  · rw [if_pos ⟨by omega, c⟩]
    by_cases d : b0 % 8 * 262144 + b1 % 64 * 4096 + b2 % 64 * 64 + b3 % 64 ≥ 65536 ∧ (b0 % 8 * 262144 + b1 % 64 * 4096 + b2 % 64 * 64 + b3 % 64 < 55296 ∨ (57344 ≤ b0 % 8 * 262144 + b1 % 64 * 4096 + b2 % 64 * 64 + b3 % 64 ∧ b0 % 8 * 262144 + b1 % 64 * 4096 + b2 % 64 * 64 + b3 % 64 ≤ 1114111))
    · rw [if_pos d, if_pos ⟨c, d⟩]
    · rw [if_neg d, if_neg (fun h => d h.2)]
  · rw [if_neg (fun x => c x.2), if_neg (fun x => c x.1)]
theorem decN0 {n b0 b1 b2 b3 : Nat} (h1 : 128 ≤ b0) (h2 : b0 < 192 ∨ 248 ≤ b0) (h3 : b0 < 256) : Lib.decodeN n b0 b1 b2 b3 = (65533, 1) := by
  unfold Lib.decodeN
  rw [if_neg (by omega), if_neg (fun x => by have := x.1; omega), if_neg (fun x => by have := x.1; omega), if_neg (fun x => by have := x.1; omega)]
def outR (p : Nat × Nat) : Int × Int := if p.1 = 65533 ∧ p.2 = 1 then (0, 0) else ((p.1 : Int), (p.2 : Int))
theorem outR_bad : outR (65533, 1) = (0, 0) := by simp [outR]
theorem outR_ne {a b : Nat} (h : b ≠ 1) : outR (a, b) = ((a : Int), (b : Int)) := by simp [outR, h]
theorem l1Rune_num (t : ByteArray) (n b0 b1 b2 b3 : Nat) (hn : t.size = n) (h0 : 0 < n) (e0 : bt t 0 = b0) (e1 : bt t 1 = b1) (e2 : bt t 2 = b2) (e3 : bt t 3 = b3) (g0 : b0 < 256) (g1 : b1 < 256) (g2 : b2 < 256) (g3 : b3 < 256) (k : Nat) :
    spec_l1Rune.f (k + 8) t = some (outR (Lib.decodeN n b0 b1 b2 b3)) := by
  have hne : ¬ t.toList = ([] : List UInt8) := by
    intro e
    rw [toList_eq'] at e
    have := congrArg List.length e
    rw [data_length, List.length_nil] at this
    omega
  unfold spec_l1Rune.f
  rw [if_neg hne, if_pos (by omega), e0, w64 (x := (b0 : Int)) (by omega) (by omega)]
  by_cases c1 : b0 < 128
  · rw [if_pos (by omega)]
    unfold Lib.decodeN
    rw [if_pos c1]
    simp [outR, show b0 ≠ 65533 by omega]
  rw [if_neg (by omega)]
  by_cases c2 : 192 ≤ b0
  · rw [if_pos (by omega)]
    by_cases c3 : b0 < 224
    · rw [decide_eq_true (by omega), decN2 ⟨c2, c3⟩]
      rw [spec_l1Rune.j0, if_pos rfl, spec_l1Rune.j2, Int.tmod_eq_emod_of_nonneg (by omega)]
      by_cases d : 1 < n
      · rw [if_neg (by omega)]
        by_cases f : b1 / 64 = 2
        · rw [l1_step _ t _ _ _ 1 (by omega) (by omega) (by omega) (by omega) (by omega) (by omega), l1_end _ t _ _ _ _ (by omega), e1]
          by_cases g : b0 % 32 * 64 + b1 % 64 ≥ 128
          · rw [if_pos (by omega), if_pos ⟨⟨d, f⟩, g⟩, outR_ne (by decide)]
            congr 2
            omega
          · rw [if_neg (by omega), if_neg (fun h => g h.2), outR_bad]
        · rw [l1_bad _ t _ _ _ 1 (by omega) (by omega) (by omega) (by omega), if_neg (fun h => f h.1.2), outR_bad]
      · rw [if_pos (by omega), if_neg (fun h => d h.1.1), outR_bad]
    rw [decide_eq_false (by omega)]
    rw [spec_l1Rune.j0, if_neg (by decide), if_pos (by omega)]
    by_cases c4 : b0 < 240
    · rw [decide_eq_true (by omega), decN3 ⟨by omega, c4⟩]
      rw [spec_l1Rune.j1, if_pos rfl, spec_l1Rune.j2, Int.tmod_eq_emod_of_nonneg (by omega)]
      by_cases d : 2 < n
      · rw [if_neg (by omega)]
        by_cases f : b1 / 64 = 2
        · rw [l1_step _ t _ _ _ 1 (by omega) (by omega) (by omega) (by omega) (by omega) (by omega)]
          simp only [Int.reduceAdd]
          by_cases f2 : b2 / 64 = 2
          · rw [l1_step _ t _ _ _ 2 (by omega) (by omega) (by omega) (by omega) (by omega) (by omega), l1_end _ t _ _ _ _ (by omega), e1, e2]
            by_cases g : b0 % 16 * 4096 + b1 % 64 * 64 + b2 % 64 ≥ 2048 ∧ (b0 % 16 * 4096 + b1 % 64 * 64 + b2 % 64 < 55296 ∨ (57344 ≤ b0 % 16 * 4096 + b1 % 64 * 64 + b2 % 64 ∧ b0 % 16 * 4096 + b1 % 64 * 64 + b2 % 64 ≤ 1114111))
            · rw [if_pos (by omega), if_pos ⟨⟨⟨by omega, f⟩, d, f2⟩, g⟩, outR_ne (by decide)]
              congr 2
              omega
            · rw [if_neg (by omega), if_neg (fun h => g h.2), outR_bad]
          · rw [l1_bad _ t _ _ _ 2 (by omega) (by omega) (by omega) (by omega), if_neg (fun h => f2 h.1.2.2), outR_bad]
        · rw [l1_bad _ t _ _ _ 1 (by omega) (by omega) (by omega) (by omega), if_neg (fun h => f h.1.1.2), outR_bad]
      · rw [if_pos (by omega), if_neg (fun h => d h.1.2.1), outR_bad]
    rw [decide_eq_false (by omega)]
    rw [spec_l1Rune.j1, if_neg (by decide), if_pos (by omega)]
    by_cases c5 : b0 < 248
    · rw [if_pos (by omega), decN4 ⟨by omega, c5⟩]
      rw [spec_l1Rune.j2, Int.tmod_eq_emod_of_nonneg (by omega)]
      by_cases d : 3 < n
      · rw [if_neg (by omega)]
        by_cases f : b1 / 64 = 2
        · rw [l1_step _ t _ _ _ 1 (by omega) (by omega) (by omega) (by omega) (by omega) (by omega)]
          simp only [Int.reduceAdd]
          by_cases f2 : b2 / 64 = 2
          · rw [l1_step _ t _ _ _ 2 (by omega) (by omega) (by omega) (by omega) (by omega) (by omega)]
            simp only [Int.reduceAdd]
            by_cases f3 : b3 / 64 = 2
            · rw [l1_step _ t _ _ _ 3 (by omega) (by omega) (by omega) (by omega) (by omega) (by omega), l1_end _ t _ _ _ _ (by omega), e1, e2, e3]
              by_cases g : b0 % 8 * 262144 + b1 % 64 * 4096 + b2 % 64 * 64 + b3 % 64 ≥ 65536 ∧ (b0 % 8 * 262144 + b1 % 64 * 4096 + b2 % 64 * 64 + b3 % 64 < 55296 ∨ (57344 ≤ b0 % 8 * 262144 + b1 % 64 * 4096 + b2 % 64 * 64 + b3 % 64 ∧ b0 % 8 * 262144 + b1 % 64 * 4096 + b2 % 64 * 64 + b3 % 64 ≤ 1114111))
              · rw [if_pos (by omega), if_pos ⟨⟨⟨by omega, f⟩, ⟨by omega, f2⟩, d, f3⟩, g⟩, outR_ne (by decide)]
                congr 2
                omega
              · rw [if_neg (by omega), if_neg (fun h => g h.2), outR_bad]
            · rw [l1_bad _ t _ _ _ 3 (by omega) (by omega) (by omega) (by omega), if_neg (fun h => f3 h.1.2.2.2), outR_bad]
          · rw [l1_bad _ t _ _ _ 2 (by omega) (by omega) (by omega) (by omega), if_neg (fun h => f2 h.1.2.1.2), outR_bad]
        · rw [l1_bad _ t _ _ _ 1 (by omega) (by omega) (by omega) (by omega), if_neg (fun h => f h.1.1.2), outR_bad]
      · rw [if_pos (by omega), if_neg (fun h => d h.1.2.2.1), outR_bad]
    · rw [if_neg (by omega), decN0 (by omega) (by omega) g0, outR_bad]
  · rw [if_neg (by omega), decN0 (by omega) (by omega) g0, outR_bad]
    rw [spec_l1Rune.j0, if_neg (by decide), if_neg (by omega), spec_l1Rune.j1, if_neg (by decide), if_neg (by omega)]
theorem bt_getD (t : ByteArray) (i : Nat) : bt t (i : Int) = ((t.data.toList.getD i 0).toNat : Int) := by
  rw [← rd_bytesOf]
  unfold rd bytesOf
  simp only [Int.toNat_natCast, List.getD_eq_getElem?_getD, List.getElem?_map]
  cases t.data.toList[i]? <;> rfl
theorem l1Rune_ev (t : ByteArray) (h : t.data.toList ≠ []) : Ev (fun k => spec_l1Rune.f k t) (outR (Lib.decodeL t.data.toList)) := by
  refine ⟨8, fun k hk => ?_⟩
  obtain ⟨m, rfl⟩ : ∃ m, k = m + 8 := ⟨k - 8, by omega⟩
  rw [Lib.decodeL_N]
  have hl := List.length_pos_iff.2 h
  exact l1Rune_num t _ _ _ _ _ (by rw [data_length]) hl (bt_getD t 0) (bt_getD t 1) (bt_getD t 2) (bt_getD t 3) (UInt8.toNat_lt _) (UInt8.toNat_lt _) (UInt8.toNat_lt _) (UInt8.toNat_lt _) m
theorem drop_extract (t : ByteArray) (n : Nat) : (t.extract n t.size).data.toList = t.data.toList.drop n := by
  rw [Lib.extract_data, List.take_of_length_le]
  rw [List.length_drop, data_length]
  omega
def runesR (l : List UInt8) (acc : List Int) : List Int × Bool := if Lib.validGoD l.length l = true then (acc ++ impl_Runes.from l.length l, true) else ([], false)
theorem valid_fuel : ∀ (n : Nat) (l : List UInt8) (m : Nat), l.length ≤ n → l.length ≤ m → Lib.validGoD n l = Lib.validGoD m l ∧ impl_Runes.from n l = impl_Runes.from m l := by
  intro n
  induction n with
  | zero =>
    intro l m hn hm
    obtain rfl : l = [] := List.length_eq_zero_iff.1 (by omega)
    cases m <;> simp [Lib.validGoD, impl_Runes.from]
  | succ n ih =>
    intro l m hn hm
    cases m with
    | zero =>
      obtain rfl : l = [] := List.length_eq_zero_iff.1 (by omega)
      simp [Lib.validGoD, impl_Runes.from]
    | succ m =>
      by_cases e : l = []
      · subst e
        simp [Lib.validGoD, impl_Runes.from]
      · have hw := Lib.decodeL_width l
        have hl := List.length_pos_iff.2 e
        have h := ih (l.drop (Lib.decodeL l).2) m (by rw [List.length_drop]; omega) (by rw [List.length_drop]; omega)
        simp only [Lib.validGoD, impl_Runes.from, if_neg e, h.1, h.2, and_self]
theorem spec_Runes_l0_ev : ∀ (n : Nat) (t : ByteArray) (acc : List Int), t.size ≤ n → acc.length + t.size ≤ 100000 → Ev (fun k => spec_Runes.l0 k t acc) (runesR t.data.toList acc) := by
  intro n
  induction n with
  | zero =>
    intro t acc hn hl
    have e : t.data.toList = [] := List.length_eq_zero_iff.1 (by rw [data_length]; omega)
    refine Ev.later fun k => ?_
    simp only [spec_Runes.l0]
    rw [if_pos (by rw [toList_eq']; exact e), e]
    simp [runesR, Lib.validGoD, impl_Runes.from]
  | succ n ih =>
    intro t acc hn hl
    by_cases e : t.data.toList = []
    · refine Ev.later fun k => ?_
      simp only [spec_Runes.l0]
      rw [if_pos (by rw [toList_eq']; exact e), e]
      simp [runesR, Lib.validGoD, impl_Runes.from]
    · have hsz : 0 < t.size := by
        have := List.length_pos_iff.2 e
        rw [data_length] at this
        exact this
      have hw := Lib.decodeL_width t.data.toList
      have hle := Lib.decodeL_le t.data.toList e
      rw [data_length] at hle
      refine Ev.step (f := fun k => (spec_l1Rune.f k t).bind fun bt107 => (if bt107.2 = 0 then (some (([] : List Int), false)) else (if acc.length < 17592186044416 then (if 0 ≤ bt107.2 then (if bt107.2 ≤ (t.size : Int) then (spec_Runes.l0 k (t.extract (bt107.2 : Int).toNat t.size) (acc ++ [bt107.1])) else (none)) else (none)) else (none)))) (fun k => by simp only [spec_Runes.l0]; rw [if_neg (by rw [toList_eq']; exact e)]) ?_
      refine Ev.bind (l1Rune_ev t e) ?_
      obtain ⟨m, hm⟩ : ∃ m, t.data.toList.length = m + 1 := ⟨t.data.toList.length - 1, by rw [data_length]; omega⟩
      by_cases c : (Lib.decodeL t.data.toList).1 = 65533 ∧ (Lib.decodeL t.data.toList).2 = 1
      · have e1 : outR (Lib.decodeL t.data.toList) = (0, 0) := by unfold outR; rw [if_pos c]
        have e2 : runesR t.data.toList acc = ([], false) := by
          unfold runesR
          rw [hm, Lib.validGoD, if_neg e, if_pos c]
          rfl
        rw [e1, e2]
        simp only [if_true]
        exact Ev.now _
      · have e1 : outR (Lib.decodeL t.data.toList) = (((Lib.decodeL t.data.toList).1 : Int), ((Lib.decodeL t.data.toList).2 : Int)) := by unfold outR; rw [if_neg c]
        rw [e1]
        have q1 : ¬ ((Lib.decodeL t.data.toList).2 : Int) = 0 := by omega
        have q2 : acc.length < 17592186044416 := by omega
        have q3 : 0 ≤ ((Lib.decodeL t.data.toList).2 : Int) := by omega
        have q4 : ((Lib.decodeL t.data.toList).2 : Int) ≤ (t.size : Int) := by omega
        simp only [q1, q2, q3, q4, if_true, if_false, Int.toNat_natCast]
        have hz : (t.extract (Lib.decodeL t.data.toList).2 t.size).size = t.size - (Lib.decodeL t.data.toList).2 := by rw [ByteArray.size_extract]; omega
        have h := ih (t.extract (Lib.decodeL t.data.toList).2 t.size) (acc ++ [((Lib.decodeL t.data.toList).1 : Int)]) (by omega) (by rw [List.length_append]; simp only [List.length_cons, List.length_nil]; omega)
        have e2 : runesR t.data.toList acc = runesR (t.extract (Lib.decodeL t.data.toList).2 t.size).data.toList (acc ++ [((Lib.decodeL t.data.toList).1 : Int)]) := by
          rw [drop_extract]
          have hlen : (t.data.toList.drop (Lib.decodeL t.data.toList).2).length ≤ m := by rw [List.length_drop]; omega
          have hf := valid_fuel m (t.data.toList.drop (Lib.decodeL t.data.toList).2) _ hlen (Nat.le_refl _)
          unfold runesR
          rw [← hf.1, ← hf.2, hm]
          simp only [Lib.validGoD, impl_Runes.from, if_neg e, if_neg c, List.append_assoc, List.cons_append, List.nil_append]
        rw [e2]
        exact h
def runesOf (t : ByteArray) : List Int × Bool := if (t.size : Int) > 20000 then ([], false) else runesR t.data.toList []
theorem spec_Runes_ev (t : ByteArray) : Ev (fun k => spec_Runes.f k t) (runesOf t) := by
  unfold spec_Runes.f runesOf
  by_cases c : (t.size : Int) > 20000
  · simp only [c, if_true]
    exact Ev.now _
  · simp only [c, if_false]
    exact spec_Runes_l0_ev t.size t [] (Nat.le_refl _) (by simp; omega)
theorem impl_Runes_eq (t : ByteArray) : impl_Runes.f t = some (runesOf t) := by
  unfold impl_Runes.f runesOf runesR Lib.validD
  by_cases c : (t.size : Int) > 20000
  · rw [if_pos c, if_pos c]
  · rw [if_neg c, if_neg c, data_length]
    split <;> simp
theorem runes_length : ∀ (n : Nat) (l : List UInt8), (impl_Runes.from n l).length ≤ n
  | 0, _ => by simp [impl_Runes.from]
  | n + 1, l => by
    rw [impl_Runes.from]
    split
    · simp
    · have := runes_length n (l.drop (Lib.decodeL l).2)
      simp
      omega
theorem runesOf_length (t : ByteArray) : (runesOf t).1.length ≤ 20000 := by
  unfold runesOf runesR
  split
  · simp
  · rename_i h
    split
    · have := runes_length t.data.toList.length t.data.toList
      rw [data_length] at this
      simp only [List.nil_append, data_length]
      omega
    · simp
end Go.Proofs.YtbhklkpjjpkblaaGreatDoor.PP
namespace Go.Proofs.YtbhklkpjjpkblaaGreatDoor.PP
open Go.RowKit Go.Proofs.YtbhklkpjjpkblaaGreatDoorW.PrintWords
set_option linter.unusedVariables false
set_option linter.unusedSimpArgs false
def firstB (c : Int) : Bool := decide ((97 ≤ c ∧ c ≤ 122) ∨ (65 ≤ c ∧ c ≤ 90) ∨ c = 95)
def moreB (c : Int) : Bool := decide ((97 ≤ c ∧ c ≤ 122) ∨ (65 ≤ c ∧ c ≤ 90) ∨ c = 95 ∨ (48 ≤ c ∧ c ≤ 57) ∨ c = 46 ∨ c = 45)
def nameOk (s : ByteArray) : Bool := decide (1 ≤ s.size) && (decide (s.size ≤ 40) && (firstB (bt s 0) && ((bytesOf s).drop 1).all moreB))
theorem spec_l1First_eq (c : Int) : spec_l1First.f c = some (firstB c) := by
  unfold spec_l1First.f firstB
  repeat' split
  all_goals (congr 1; first | (symm; exact decide_eq_true (by omega)) | (rw [Bool.eq_iff_iff]; simp only [beq_iff_eq, decide_eq_true_eq]; omega))
theorem spec_l1Digit_eq (c : Int) : spec_l1Digit.f c = some (decide (48 ≤ c ∧ c ≤ 57)) := by
  unfold spec_l1Digit.f
  split
  · congr 1
    rw [Bool.eq_iff_iff]
    simp only [decide_eq_true_eq]
    omega
  · congr 1
    symm
    exact decide_eq_false (by omega)
theorem spec_l1More_eq (c : Int) : spec_l1More.f c = some (moreB c) := by
  unfold spec_l1More.f moreB
  simp only [spec_l1First_eq, spec_l1Digit_eq, Option.bind_some, firstB, decide_eq_true_eq]
  repeat' split
  all_goals (congr 1; first | (symm; exact decide_eq_true (by omega)) | (rw [Bool.eq_iff_iff]; simp only [beq_iff_eq, decide_eq_true_eq]; omega))
theorem spec_NameOk_l0_ev (s : ByteArray) (hs : s.size ≤ 140737488351232) : ∀ (d n : Nat), n + d = s.size → Ev (fun k => spec_NameOk.l0 k s (n : Int)) (((bytesOf s).drop n).all moreB) := by
  intro d
  induction d with
  | zero =>
    intro n hn
    rw [bytes_drop_end s n (by omega)]
    refine Ev.later fun k => ?_
    simp only [spec_NameOk.l0]
    rw [if_neg (cast_nlt (by omega))]
    rfl
  | succ d ih =>
    intro n hn
    rw [bytes_drop s n (by omega), List.all_cons]
    refine Ev.step (f := fun k => if moreB (bt s n) = true then spec_NameOk.l0 k s ((n + 1 : Nat) : Int) else some false) (fun k => ?_) ?_
    · simp only [spec_NameOk.l0]
      rw [if_pos (cast_lt (by omega)), if_pos (by omega), spec_l1More_eq, Option.bind_some, wrap_succ (n := s.size) (by omega) (cast_lt (by omega)) (by omega)]
      rfl
    · cases h : moreB (bt s n)
      · simp only [Bool.false_eq_true, if_false, Bool.false_and]
        exact Ev.now _
      · simp only [if_true, Bool.true_and]
        exact ih (n + 1) (by omega)
theorem spec_NameOk_ev (s : ByteArray) (hs : s.size ≤ 140737488351232) : Ev (fun k => spec_NameOk.f k s) (nameOk s) := by
  unfold spec_NameOk.f nameOk
  by_cases h1 : (s.size : Int) < 1
  · simp only [h1, if_true]
    rw [decide_eq_false (by omega), Bool.false_and]
    exact Ev.later fun k => by simp only [spec_NameOk.j0, if_true]
  simp only [h1, if_false]
  rw [decide_eq_true (show 1 ≤ s.size by omega), Bool.true_and]
  by_cases h2 : (s.size : Int) > 40
  · simp only [h2, if_true]
    rw [decide_eq_false (by omega), Bool.false_and]
    exact Ev.later fun k => by simp only [spec_NameOk.j0, if_true]
  simp only [h2, if_false, show (0 : Int) < (s.size : Int) by omega, if_true, spec_l1First_eq, Option.bind_some]
  rw [decide_eq_true (show s.size ≤ 40 by omega), Bool.true_and]
  cases firstB (bt s 0)
  · exact Ev.later fun k => by simp only [spec_NameOk.j0, Bool.not_false, if_true, Bool.false_and]
  · simp only [Bool.not_true, Bool.true_and]
    refine Ev.step (f := fun k => spec_NameOk.l0 k s ((1 : Nat) : Int)) (fun k => by simp only [spec_NameOk.j0, Bool.false_eq_true, if_false]; rfl) ?_
    exact spec_NameOk_l0_ev s hs (s.size - 1) 1 (by omega)
set_option maxHeartbeats 8000000 in
theorem impl_NameOk_l0_yes (k : Nat) (s : ByteArray) (i : Int) (h0 : 0 ≤ i) (h : i < (s.size : Int)) (hc : (97 ≤ bt s i ∧ bt s i ≤ 122) ∨ (65 ≤ bt s i ∧ bt s i ≤ 90) ∨ bt s i = 95 ∨ (¬ i = 0 ∧ ((48 ≤ bt s i ∧ bt s i ≤ 57) ∨ bt s i = 46 ∨ bt s i = 45))) :
    impl_NameOk.l0 (k + 1) s (s.size : Int) i = impl_NameOk.l0 k s (s.size : Int) (wrap64 (i + 1)) := by
  simp only [impl_NameOk.l0]
  rw [if_pos h, if_pos h0]
  generalize impl_NameOk.l0 k s (s.size : Int) (wrap64 (i + 1)) = R
  generalize bt s i = c at hc
  repeat' split
  all_goals first | rfl | (exfalso; omega)
set_option maxHeartbeats 8000000 in
theorem impl_NameOk_l0_no (k : Nat) (s : ByteArray) (i : Int) (h0 : 0 ≤ i) (h : i < (s.size : Int)) (hc : ¬ ((97 ≤ bt s i ∧ bt s i ≤ 122) ∨ (65 ≤ bt s i ∧ bt s i ≤ 90) ∨ bt s i = 95 ∨ (¬ i = 0 ∧ ((48 ≤ bt s i ∧ bt s i ≤ 57) ∨ bt s i = 46 ∨ bt s i = 45)))) :
    impl_NameOk.l0 (k + 1) s (s.size : Int) i = some false := by
  simp only [impl_NameOk.l0]
  rw [if_pos h, if_pos h0]
  generalize impl_NameOk.l0 k s (s.size : Int) (wrap64 (i + 1)) = R
  generalize bt s i = c at hc
  repeat' split
  all_goals first | rfl | (exfalso; omega)
theorem impl_NameOk_l0_at (k : Nat) (s : ByteArray) (i : Int) (h0 : 0 ≤ i) (h : i < (s.size : Int)) :
    impl_NameOk.l0 (k + 1) s (s.size : Int) i = if (97 ≤ bt s i ∧ bt s i ≤ 122) ∨ (65 ≤ bt s i ∧ bt s i ≤ 90) ∨ bt s i = 95 ∨ (¬ i = 0 ∧ ((48 ≤ bt s i ∧ bt s i ≤ 57) ∨ bt s i = 46 ∨ bt s i = 45)) then impl_NameOk.l0 k s (s.size : Int) (wrap64 (i + 1)) else some false := by
  by_cases hc : (97 ≤ bt s i ∧ bt s i ≤ 122) ∨ (65 ≤ bt s i ∧ bt s i ≤ 90) ∨ bt s i = 95 ∨ (¬ i = 0 ∧ ((48 ≤ bt s i ∧ bt s i ≤ 57) ∨ bt s i = 46 ∨ bt s i = 45))
  · rw [if_pos hc]; exact impl_NameOk_l0_yes k s i h0 h hc
  · rw [if_neg hc]; exact impl_NameOk_l0_no k s i h0 h hc
theorem impl_NameOk_l0_ev (s : ByteArray) (hs : s.size ≤ 140737488351232) : ∀ (d n : Nat), 1 ≤ n → n + d = s.size → Ev (fun k => impl_NameOk.l0 k s (s.size : Int) (n : Int)) (((bytesOf s).drop n).all moreB && inR s.size 1 40) := by
  intro d
  induction d with
  | zero =>
    intro n h1 hn
    rw [bytes_drop_end s n (by omega)]
    refine Ev.later fun k => ?_
    simp only [impl_NameOk.l0]
    rw [if_neg (cast_nlt (by omega)), impl_in_eq]
    rfl
  | succ d ih =>
    intro n h1 hn
    rw [bytes_drop s n (by omega), List.all_cons]
    refine Ev.step (f := fun k => if moreB (bt s n) = true then impl_NameOk.l0 k s (s.size : Int) ((n + 1 : Nat) : Int) else some false) (fun k => ?_) ?_
    · rw [impl_NameOk_l0_at k s n (by omega) (cast_lt (by omega)), wrap_succ (n := s.size) (by omega) (cast_lt (by omega)) (by omega)]
      unfold moreB
      by_cases c : (97 ≤ bt s n ∧ bt s n ≤ 122) ∨ (65 ≤ bt s n ∧ bt s n ≤ 90) ∨ bt s n = 95 ∨ (48 ≤ bt s n ∧ bt s n ≤ 57) ∨ bt s n = 46 ∨ bt s n = 45
      · rw [if_pos (by omega), if_pos (decide_eq_true c)]
        rfl
      · rw [if_neg (by omega), if_neg (by rw [decide_eq_false c]; decide)]
    · cases h : moreB (bt s n)
      · simp only [Bool.false_eq_true, if_false, Bool.false_and]
        exact Ev.now _
      · simp only [if_true, Bool.true_and]
        exact ih (n + 1) (by omega) (by omega)
theorem impl_NameOk_ev (s : ByteArray) (hs : s.size ≤ 140737488351232) : Ev (fun k => impl_NameOk.f k s) (nameOk s) := by
  unfold impl_NameOk.f nameOk
  by_cases h1 : s.size = 0
  · rw [decide_eq_false (by omega), Bool.false_and]
    refine Ev.later fun k => ?_
    simp only [impl_NameOk.l0]
    rw [if_neg (by omega), impl_in_eq, Option.bind_some]
    congr 1
    unfold inR
    apply decide_eq_false
    omega
  rw [decide_eq_true (show 1 ≤ s.size by omega), Bool.true_and]
  refine Ev.step (f := fun k => if firstB (bt s 0) = true then impl_NameOk.l0 k s (s.size : Int) ((1 : Nat) : Int) else some false) (fun k => ?_) ?_
  · rw [impl_NameOk_l0_at k s 0 (by omega) (by omega), show wrap64 ((0 : Int) + 1) = ((1 : Nat) : Int) from w64 (by omega) (by omega)]
    unfold firstB
    by_cases c : (97 ≤ bt s 0 ∧ bt s 0 ≤ 122) ∨ (65 ≤ bt s 0 ∧ bt s 0 ≤ 90) ∨ bt s 0 = 95
    · rw [if_pos (by omega), if_pos (decide_eq_true c)]
    · rw [if_neg (by omega), if_neg (by rw [decide_eq_false c]; decide)]
  · cases h : firstB (bt s 0)
    · simp only [Bool.false_eq_true, if_false, Bool.false_and, Bool.and_false]
      exact Ev.now _
    · simp only [if_true, Bool.true_and]
      have := impl_NameOk_l0_ev s hs (s.size - 1) 1 (by omega) (by omega)
      have e : (decide (s.size ≤ 40) && ((bytesOf s).drop 1).all moreB) = (((bytesOf s).drop 1).all moreB && inR s.size 1 40) := by
        have e2 : inR (s.size : Int) 1 40 = decide (s.size ≤ 40) := by
          unfold inR
          rw [Bool.eq_iff_iff]
          simp only [decide_eq_true_eq]
          omega
        rw [e2, Bool.and_comm]
      rw [e]
      exact this
end Go.Proofs.YtbhklkpjjpkblaaGreatDoor.PP
namespace Go.Proofs.YtbhklkpjjpkblaaGreatDoor.PP
open Go.RowKit Go.Proofs.YtbhklkpjjpkblaaGreatDoorW.PrintWords
set_option linter.unusedVariables false
set_option linter.unusedSimpArgs false
def fc : List Int → Int
  | [] => -1
  | b :: l => if b = 58 then 0 else if fc l = -1 then -1 else fc l + 1
theorem fc_range : ∀ l : List Int, -1 ≤ fc l ∧ fc l < (l.length : Int)
  | [] => by simp [fc]
  | b :: l => by
    have := fc_range l
    simp only [fc, List.length_cons]
    repeat' split
    all_goals omega
theorem indexByte_fc : ∀ l : List UInt8, Lib.indexByte l 58 = fc (l.map fun b => (b.toNat : Int))
  | [] => rfl
  | b :: l => by
    have ih := indexByte_fc l
    simp only [Lib.indexByte, fc, List.map_cons, ih]
    by_cases c : b = 58
    · subst c
      rfl
    · have c2 : ¬ (b.toNat : Int) = 58 := by
        intro e
        apply c
        apply UInt8.toNat_inj.1
        have : b.toNat = 58 := by omega
        rw [this]
        rfl
      have c3 : (b == 58) = false := beq_eq_false_iff_ne.2 c
      rw [if_neg c2, c3]
      simp
def splitI (s : ByteArray) : Int := fc (bytesOf s)
def noName : ByteArray × ByteArray × Bool := ((⟨#[]⟩ : ByteArray), (⟨#[]⟩ : ByteArray), false)
def splitF (s : ByteArray) : ByteArray × ByteArray × Bool :=
  if splitI s < 0 then (if nameOk s = true then ((⟨#[]⟩ : ByteArray), s, true) else noName)
  else if nameOk (s.extract 0 (splitI s).toNat) = true then (if nameOk (s.extract (splitI s + 1).toNat s.size) = true then (s.extract 0 (splitI s).toNat, s.extract (splitI s + 1).toNat s.size, true) else noName) else noName
theorem size_le {s : ByteArray} {a b : Nat} (hs : s.size ≤ 140737488351232) : (s.extract a b).size ≤ 140737488351232 := by
  rw [ByteArray.size_extract]
  omega
theorem splitI_range (s : ByteArray) : -1 ≤ splitI s ∧ splitI s < (s.size : Int) := by
  have := fc_range (bytesOf s)
  rw [bytesOf_length] at this
  exact this
theorem spec_Split_end (s : ByteArray) (hs : s.size ≤ 140737488351232) (n : Int) : Ev (fun k => spec_Split.j1 k s (splitI s) n false) (splitF s) := by
  have hr := splitI_range s
  unfold splitF
  by_cases c : splitI s < 0
  · refine Ev.step (f := fun k => (spec_NameOk.f k s).bind fun t => if t = true then some ((⟨#[]⟩ : ByteArray), s, true) else some noName) (fun k => ?_) ?_
    · simp only [spec_Split.j1, Bool.false_eq_true, if_false, c, if_true]
      rfl
    · refine Ev.bind (spec_NameOk_ev s hs) ?_
      simp only [c, if_true]
      cases nameOk s <;> exact Ev.now _
  · have w1 : wrap64 (splitI s + 1) = splitI s + 1 := w64 (by omega) (by omega)
    refine Ev.step (f := fun k => (spec_NameOk.f k (s.extract 0 (splitI s).toNat)).bind fun t => if t = true then ((spec_NameOk.f k (s.extract (splitI s + 1).toNat s.size)).bind fun u => if u = true then some (s.extract 0 (splitI s).toNat, s.extract (splitI s + 1).toNat s.size, true) else some noName) else some noName) (fun k => ?_) ?_
    · simp only [spec_Split.j1, Bool.false_eq_true, if_false, c, w1]
      rw [if_pos (show 0 ≤ splitI s by omega), if_pos (show splitI s ≤ (s.size : Int) by omega)]
      simp only [show (0 : Int) ≤ splitI s + 1 by omega, show splitI s + 1 ≤ (s.size : Int) by omega, if_true]
      rfl
    · refine Ev.bind (spec_NameOk_ev _ (size_le hs)) ?_
      simp only [c, if_false]
      cases nameOk (s.extract 0 (splitI s).toNat)
      · exact Ev.now _
      · simp only [if_true]
        refine Ev.bind (spec_NameOk_ev _ (size_le hs)) ?_
        cases nameOk (s.extract (splitI s + 1).toNat s.size) <;> exact Ev.now _
theorem spec_Split_found (s : ByteArray) (hs : s.size ≤ 140737488351232) (n : Int) (h : 0 ≤ splitI s) : Ev (fun k => spec_Split.l0 k s (splitI s) n) (splitF s) := by
  refine Ev.step (f := fun k => spec_Split.j1 k s (splitI s) n false) (fun k => ?_) (spec_Split_end s hs n)
  simp only [spec_Split.l0]
  rw [decide_eq_false (by omega)]
  split <;> rfl
theorem spec_Split_l0_ev (s : ByteArray) (hs : s.size ≤ 140737488351232) : ∀ (d n : Nat), n + d = s.size → ((fc ((bytesOf s).drop n) = -1 ∧ splitI s = -1) ∨ (0 ≤ fc ((bytesOf s).drop n) ∧ splitI s = fc ((bytesOf s).drop n) + n)) → Ev (fun k => spec_Split.l0 k s (-1) (n : Int)) (splitF s) := by
  intro d
  induction d with
  | zero =>
    intro n hn hi
    rw [bytes_drop_end s n (by omega)] at hi
    have hi2 : splitI s = -1 := by
      rcases hi with ⟨_, h⟩ | ⟨h, _⟩
      · exact h
      · exact absurd h (by decide)
    refine Ev.step (f := fun k => spec_Split.j1 k s (-1) (n : Int) false) (fun k => ?_) ?_
    · simp only [spec_Split.l0]
      rw [if_neg (cast_nlt (by omega))]
    · have := spec_Split_end s hs (n : Int)
      rw [hi2] at this
      exact this
  | succ d ih =>
    intro n hn hi
    have hfc : fc ((bytesOf s).drop n) = if bt s (n : Int) = 58 then 0 else if fc ((bytesOf s).drop (n + 1)) = -1 then -1 else fc ((bytesOf s).drop (n + 1)) + 1 := by
      rw [bytes_drop s n (by omega)]
      rfl
    by_cases c : bt s (n : Int) = 58
    · rw [if_pos c] at hfc
      have hi2 : splitI s = (n : Int) := by omega
      refine Ev.step (f := fun k => spec_Split.j1 k s (-1) (n : Int) true) (fun k => ?_) ?_
      · simp only [spec_Split.l0]
        rw [if_pos (cast_lt (by omega))]
        rfl
      · refine Ev.step (f := fun k => spec_Split.l0 k s (splitI s) ((n + 1 : Nat) : Int)) (fun k => ?_) (spec_Split_found s hs _ (by omega))
        simp only [spec_Split.j1, if_true]
        rw [if_pos (show (0 : Int) ≤ (n : Int) by omega), if_pos (cast_lt (by omega)), if_pos c, wrap_succ (n := s.size) (by omega) (cast_lt (by omega)) (by omega), hi2]
        rfl
    · rw [if_neg c] at hfc
      have next := ih (n + 1) (by omega) (by
        have := fc_range ((bytesOf s).drop (n + 1))
        by_cases e : fc ((bytesOf s).drop (n + 1)) = -1
        · rw [if_pos e] at hfc
          exact .inl ⟨e, by omega⟩
        · rw [if_neg e] at hfc
          exact .inr ⟨by omega, by omega⟩)
      refine Ev.step (f := fun k => spec_Split.j1 k s (-1) (n : Int) true) (fun k => ?_) ?_
      · simp only [spec_Split.l0]
        rw [if_pos (cast_lt (by omega))]
        rfl
      · refine Ev.step (f := fun k => spec_Split.l0 k s (-1) ((n + 1 : Nat) : Int)) (fun k => ?_) next
        simp only [spec_Split.j1, if_true]
        rw [if_pos (show (0 : Int) ≤ (n : Int) by omega), if_pos (cast_lt (by omega)), if_neg c, wrap_succ (n := s.size) (by omega) (cast_lt (by omega)) (by omega)]
        rfl
theorem spec_Split_ev (s : ByteArray) (hs : s.size ≤ 140737488351232) : Ev (fun k => spec_Split.f k s) (splitF s) := by
  unfold spec_Split.f
  refine spec_Split_l0_ev s hs s.size 0 (by omega) ?_
  unfold splitI
  rw [List.drop_zero]
  have := fc_range (bytesOf s)
  by_cases e : fc (bytesOf s) = -1
  · exact .inl ⟨e, e⟩
  · exact .inr ⟨by omega, by omega⟩
theorem strings_Cut_colon (s : ByteArray) (hs : s.size ≤ 140737488351232) : strings_Cut.f s (⟨#[58]⟩ : ByteArray) = some (if splitI s < 0 then (s, (⟨#[]⟩ : ByteArray), false) else (s.extract 0 (splitI s).toNat, s.extract (splitI s + 1).toNat s.size, true)) := by
  have hr := splitI_range s
  have hx : stringslite_Index.f s (⟨#[58]⟩ : ByteArray) = some (splitI s) := by
    unfold stringslite_Index.f
    rw [if_pos (by rfl)]
    by_cases c : (⟨#[58]⟩ : ByteArray).toList = s.toList
    · rw [if_pos c]
      have : s = ⟨#[58]⟩ := (bytes_inj c).symm
      subst this
      rfl
    · rw [if_neg c]
      unfold stringslite_IndexByte.f splitI
      have e : (bt (⟨#[58]⟩ : ByteArray) 0).toNat.toUInt8 = 58 := by decide
      rw [e, indexByte_fc]
      rfl
  unfold strings_Cut.f stringslite_Cut.f
  rw [hx]
  simp only [Option.bind_some]
  by_cases c : splitI s < 0
  · rw [if_neg (show ¬ splitI s ≥ 0 by omega), if_pos c]
    rfl
  · have w1 : wrap64 (splitI s + (((⟨#[58]⟩ : ByteArray).size : Nat) : Int)) = splitI s + 1 := w64 (by have : ((⟨#[58]⟩ : ByteArray).size : Int) = 1 := rfl; omega) (by have : ((⟨#[58]⟩ : ByteArray).size : Int) = 1 := rfl; omega)
    rw [if_pos (show splitI s ≥ 0 by omega), if_pos (show 0 ≤ splitI s by omega), if_pos (show splitI s ≤ (s.size : Int) by omega), w1, if_pos (show 0 ≤ splitI s + 1 by omega), if_pos (show splitI s + 1 ≤ (s.size : Int) by omega), if_neg c]
    rfl
theorem impl_Split_ev (s : ByteArray) (hs : s.size ≤ 140737488351232) : Ev (fun k => impl_Split.f k s) (splitF s) := by
  unfold impl_Split.f splitF
  rw [strings_Cut_colon s hs]
  simp only [Option.bind_some]
  by_cases c : splitI s < 0
  · simp only [c, if_true, Bool.false_eq_true, if_false]
    refine Ev.bind (impl_NameOk_ev s hs) ?_
    refine Ev.later fun k => ?_
    cases nameOk s <;> simp only [impl_Split.j0, Bool.false_eq_true, if_false, if_true] <;> rfl
  · simp only [c, if_false, if_true]
    refine Ev.step (f := fun k => (impl_NameOk.f k (s.extract 0 (splitI s).toNat)).bind fun t => if t = true then ((impl_NameOk.f k (s.extract (splitI s + 1).toNat s.size)).bind fun u => if u = true then some (s.extract 0 (splitI s).toNat, s.extract (splitI s + 1).toNat s.size, true) else some noName) else some noName) (fun k => ?_) ?_
    · simp only [impl_Split.j0, Bool.false_eq_true, if_false, if_true]
      rfl
    · refine Ev.bind (impl_NameOk_ev _ (size_le hs)) ?_
      cases nameOk (s.extract 0 (splitI s).toNat)
      · exact Ev.now _
      · simp only [if_true]
        refine Ev.bind (impl_NameOk_ev _ (size_le hs)) ?_
        cases nameOk (s.extract (splitI s + 1).toNat s.size) <;> exact Ev.now _
end Go.Proofs.YtbhklkpjjpkblaaGreatDoor.PP
namespace Go.Proofs.YtbhklkpjjpkblaaGreatDoor.PP
open Go.RowKit Go.Proofs.YtbhklkpjjpkblaaGreatDoorW.PrintWords Go.Proofs.YtbhklkpjjpkblaaGreatDoorW.PrintMore
set_option linter.unusedVariables false
set_option linter.unusedSimpArgs false
def charB (r : Int) : Bool := decide (r = 9 ∨ r = 10 ∨ r = 13 ∨ (32 ≤ r ∧ r ≤ 55295) ∨ (57344 ≤ r ∧ r ≤ 65533) ∨ (65536 ≤ r ∧ r ≤ 1114111))
theorem spec_CharOk_eq (r : Int) : spec_CharOk.f r = some (charB r) := by
  unfold spec_CharOk.f charB
  simp only [spec_l1In_eq, Option.bind_some, inR]
  by_cases c1 : r = 9
  · simp [c1]
  by_cases c2 : r = 10
  · simp [c2]
  by_cases c3 : r = 13
  · simp [c3]
  by_cases c4 : 32 ≤ r ∧ r ≤ 55295
  · simp [c1, c2, c3, c4]
  by_cases c5 : 57344 ≤ r ∧ r ≤ 65533
  · simp [c1, c2, c3, c4, c5]
  · simp [c1, c2, c3, c4, c5]
theorem impl_CharOk_eq (r : Int) : impl_CharOk.f r = some (charB r) := by
  unfold impl_CharOk.f charB
  simp only [impl_in_eq, Option.bind_some, inR]
  by_cases c1 : r = 9
  · simp [c1]
  by_cases c2 : r = 10
  · simp [c2]
  by_cases c3 : r = 13
  · simp [c3]
  by_cases c4 : 32 ≤ r ∧ r ≤ 55295
  · simp [c1, c2, c3, c4]
  by_cases c5 : 57344 ≤ r ∧ r ≤ 65533
  · simp [c1, c2, c3, c4, c5]
  · simp [c1, c2, c3, c4, c5]
def textB (s : ByteArray) : Bool := (runesOf s).2 && (runesOf s).1.all charB
theorem spec_Text_l0_ev (l : List Int) (hl : l.length ≤ 1000000) : ∀ d n, n + d = l.length → Ev (fun k => spec_l1Text.l0 k l (n : Int)) ((l.drop n).all charB) := by
  intro d
  induction d with
  | zero =>
    intro n hn
    rw [List.drop_eq_nil_of_le (by omega)]
    refine Ev.later fun k => ?_
    simp only [spec_l1Text.l0]
    rw [if_neg (cast_nlt (by omega))]
    rfl
  | succ d ih =>
    intro n hn
    rw [list_drop l n (by omega), List.all_cons]
    cases c : charB (rd l (n : Int)) with
    | true =>
      rw [Bool.true_and]
      refine Ev.step (fun k => ?_) (ih (n + 1) (by omega))
      simp only [spec_l1Text.l0]
      rw [if_pos (cast_lt (by omega)), if_pos (by omega), spec_CharOk_eq, c, Option.bind_some, if_pos rfl, wrap_succ (n := l.length) (by omega) (cast_lt (by omega)) (by omega)]
      rfl
    | false =>
      rw [Bool.false_and]
      refine Ev.later fun k => ?_
      simp only [spec_l1Text.l0]
      rw [if_pos (cast_lt (by omega)), if_pos (by omega), spec_CharOk_eq, c, Option.bind_some, if_neg (by decide)]
theorem spec_l1Text_ev (s : ByteArray) : Ev (fun k => spec_l1Text.f k s) (textB s) := by
  unfold spec_l1Text.f textB
  refine Ev.bind (spec_Runes_ev s) ?_
  have hl := runesOf_length s
  cases (runesOf s).2 with
  | false => simp only [Bool.false_eq_true, if_false, Bool.false_and]; exact Ev.now _
  | true =>
    simp only [if_true, Bool.true_and]
    exact spec_Text_l0_ev (runesOf s).1 (by omega) (runesOf s).1.length 0 (by omega)
theorem impl_Plain_l0_ev (l : List Int) (hl : l.length ≤ 1000000) : ∀ d n b, n + d = l.length → Ev (fun k => impl_isPlain.l0 k b l (l.length : Int) (n : Int)) (b && (l.drop n).all charB) := by
  intro d
  induction d with
  | zero =>
    intro n b hn
    rw [List.drop_eq_nil_of_le (by omega)]
    refine Ev.later fun k => ?_
    simp only [impl_isPlain.l0]
    rw [if_neg (cast_nlt (by omega))]
    simp
  | succ d ih =>
    intro n b hn
    rw [list_drop l n (by omega), List.all_cons]
    cases b with
    | true =>
      rw [Bool.true_and]
      refine Ev.step (fun k => ?_) (ih (n + 1) (charB (rd l (n : Int))) (by omega))
      simp only [impl_isPlain.l0]
      rw [if_pos (cast_lt (by omega)), if_pos (by omega), if_pos (cast_lt (by omega)), if_pos trivial, impl_CharOk_eq, Option.bind_some, wrap_succ (n := l.length) (by omega) (cast_lt (by omega)) (by omega)]
      rfl
    | false =>
      have h := ih (n + 1) false (by omega)
      rw [Bool.false_and] at h ⊢
      refine Ev.step (fun k => ?_) h
      simp only [impl_isPlain.l0]
      rw [if_pos (cast_lt (by omega)), if_pos (by omega), if_pos (cast_lt (by omega)), if_neg (by decide), wrap_succ (n := l.length) (by omega) (cast_lt (by omega)) (by omega)]
      rfl
theorem impl_isPlain_ev (s : ByteArray) : Ev (fun k => impl_isPlain.f k s) (textB s) := by
  unfold impl_isPlain.f textB
  simp only [impl_Runes_eq, Option.bind_some]
  have hl := runesOf_length s
  exact impl_Plain_l0_ev (runesOf s).1 (by omega) (runesOf s).1.length 0 (runesOf s).2 (by omega)
def qualB (s : ByteArray) : Bool := (splitF s).2.2
theorem spec_l1Qual_ev (s : ByteArray) (hs : s.size ≤ 140737488351232) : Ev (fun k => spec_l1Qual.f k s) (qualB s) := by
  unfold spec_l1Qual.f qualB
  exact Ev.bind (spec_Split_ev s hs) (Ev.now _)
theorem impl_isQualified_ev (s : ByteArray) (hs : s.size ≤ 140737488351232) : Ev (fun k => impl_isQualified.f k s) (qualB s) := by
  unfold impl_isQualified.f qualB
  exact Ev.bind (impl_Split_ev s hs) (Ev.now _)
end Go.Proofs.YtbhklkpjjpkblaaGreatDoor.PP
namespace Go.Proofs.YtbhklkpjjpkblaaGreatDoor.PP
open Go.RowKit Go.Proofs.YtbhklkpjjpkblaaGreatDoorW.PrintWords Go.Proofs.YtbhklkpjjpkblaaGreatDoorW.PrintMore
set_option linter.unusedVariables false
set_option linter.unusedSimpArgs false
def smallA (l : List S52) : Prop := l.length ≤ 1048576 ∧ ∀ y ∈ l, y.f0.size ≤ 1048576 ∧ y.f1.size ≤ 1048576
def smallI (x : S39) : Prop := x.f1.size ≤ 1048576 ∧ x.f2.size ≤ 1048576 ∧ smallA x.f3
def neA (a y : S52) : Bool := decide (¬ y.f0.toList = a.f0.toList)
def attrsR (l : List S52) : Nat → Nat → Bool
  | 0, _ => true
  | d + 1, n => (qualB (rd_T52 l (n : Int)).f0 && textB (rd_T52 l (n : Int)).f1) && ((l.take n).all (neA (rd_T52 l (n : Int))) && attrsR l d (n + 1))
def attrsB (l : List S52) : Bool := decide (l.length ≤ 10) && attrsR l l.length 0
theorem spec_Attrs_l1_ev (l : List S52) (hl : l.length ≤ 1048576) (n : Nat) (hn : n < l.length) (r : Bool) (hr : Ev (fun k => spec_l2Attrs.l0 k l ((n + 1 : Nat) : Int)) r) : ∀ d m, m + d = n → Ev (fun k => spec_l2Attrs.l1 k l (n : Int) (m : Int)) (((l.take n).drop m).all (neA (rd_T52 l (n : Int))) && r) := by
  intro d
  induction d with
  | zero =>
    intro m hm
    rw [List.drop_eq_nil_of_le (by rw [List.length_take]; omega)]
    simp only [List.all_nil, Bool.true_and]
    refine Ev.step (fun k => ?_) hr
    simp only [spec_l2Attrs.l1]
    rw [if_neg (cast_nlt (by omega)), wrap_succ (n := l.length) (by omega) (cast_lt hn) (by omega)]
    rfl
  | succ d ih =>
    intro m hm
    have hm2 : m < (l.take n).length := by rw [List.length_take]; omega
    rw [List.drop_eq_getElem_cons hm2, List.all_cons, List.getElem_take]
    have e : rd_T52 l (m : Int) = l[m]'(by omega) := getIA l m (by omega)
    by_cases c : (l[m]'(by omega)).f0.toList = (rd_T52 l (n : Int)).f0.toList
    · rw [show neA (rd_T52 l (n : Int)) (l[m]'(by omega)) = false from by unfold neA; simp [c], Bool.false_and, Bool.false_and]
      refine Ev.later fun k => ?_
      simp only [spec_l2Attrs.l1]
      rw [if_pos (cast_lt (by omega)), if_pos (by omega), if_pos (cast_lt (by omega)), if_pos (by omega), if_pos (cast_lt (by omega)), e, if_pos c]
    · rw [show neA (rd_T52 l (n : Int)) (l[m]'(by omega)) = true from by unfold neA; simp [c], Bool.true_and]
      refine Ev.step (fun k => ?_) (ih (m + 1) (by omega))
      simp only [spec_l2Attrs.l1]
      rw [if_pos (cast_lt (by omega)), if_pos (by omega), if_pos (cast_lt (by omega)), if_pos (by omega), if_pos (cast_lt (by omega)), e, if_neg c, wrap_succ (n := l.length) (by omega) (cast_lt (by omega)) (by omega)]
      rfl
theorem spec_Attrs_l0_ev (l : List S52) (hl : smallA l) : ∀ d n, n + d = l.length → Ev (fun k => spec_l2Attrs.l0 k l (n : Int)) (attrsR l d n) := by
  intro d
  induction d with
  | zero =>
    intro n hn
    refine Ev.later fun k => ?_
    simp only [spec_l2Attrs.l0]
    rw [if_neg (cast_nlt (by omega))]
    rfl
  | succ d ih =>
    intro n hn
    have hn2 : n < l.length := by omega
    have e : rd_T52 l (n : Int) = l[n] := getIA l n hn2
    have hs := hl.2 l[n] (List.getElem_mem _)
    rw [attrsR]
    have hq := spec_l1Qual_ev (rd_T52 l (n : Int)).f0 (by rw [e]; omega)
    have step : ∀ k, spec_l2Attrs.l0 (k + 1) l (n : Int) = (spec_l1Qual.f k ((rd_T52 l (n : Int)).f0)).bind fun t141 => (if t141 = true then ((spec_l1Text.f k ((rd_T52 l (n : Int)).f1)).bind fun t143 => (spec_l2Attrs.j1 k l (n : Int) (!t143))) else (spec_l2Attrs.j1 k l (n : Int) true)) := fun k => by
      simp only [spec_l2Attrs.l0]
      rw [if_pos (cast_lt hn2), if_pos (by omega)]
    have bad : Ev (fun k => spec_l2Attrs.j1 k l (n : Int) true) false := Ev.later fun k => by simp only [spec_l2Attrs.j1, if_true]
    refine Ev.step step (Ev.bind hq ?_)
    cases qualB (rd_T52 l (n : Int)).f0 with
    | false => simp only [Bool.false_eq_true, if_false, Bool.false_and]; exact bad
    | true =>
      simp only [if_true, Bool.true_and]
      refine Ev.bind (spec_l1Text_ev _) ?_
      cases textB (rd_T52 l (n : Int)).f1 with
      | false => simp only [Bool.not_false, Bool.false_and]; exact bad
      | true =>
        simp only [Bool.not_true, Bool.true_and]
        have h := spec_Attrs_l1_ev l hl.1 n hn2 _ (ih (n + 1) (by omega)) n 0 (by omega)
        rw [List.drop_zero] at h
        refine Ev.step (fun k => ?_) h
        simp only [spec_l2Attrs.j1, Bool.false_eq_true, if_false]
        rfl
theorem spec_Attrs_ev (l : List S52) (hl : smallA l) : Ev (fun k => spec_l2Attrs.f k l) (attrsB l) := by
  unfold spec_l2Attrs.f attrsB
  by_cases c : (l.length : Int) > 10
  · simp only [c, if_true]
    rw [decide_eq_false (by omega), Bool.false_and]
    exact Ev.now _
  · simp only [c, if_false]
    rw [decide_eq_true (by omega), Bool.true_and]
    exact spec_Attrs_l0_ev l hl l.length 0 (by omega)
section
variable (u : Int) (v w : ByteArray)
theorem impl_Good_l1_ev (l : List S52) (hl : l.length ≤ 1048576) (n : Nat) (hn : n < l.length) (r : Bool) (hr : Ev (fun k => impl_Item_isGood.l0 k l (l.length : Int) ((n + 1 : Nat) : Int) u v w l) r) : ∀ d m, m + d = n → Ev (fun k => impl_Item_isGood.l1 k l (l.length : Int) (n : Int) (l.take n) ((l.take n).length : Int) (m : Int) u v w l (rd_T52 l (n : Int)).f0 (rd_T52 l (n : Int)).f1) (((l.take n).drop m).all (neA (rd_T52 l (n : Int))) && r) := by
  have ht : (l.take n).length = n := by rw [List.length_take]; omega
  intro d
  induction d with
  | zero =>
    intro m hm
    rw [List.drop_eq_nil_of_le (by omega)]
    simp only [List.all_nil, Bool.true_and]
    refine Ev.step (fun k => ?_) hr
    simp only [impl_Item_isGood.l1]
    rw [if_neg (cast_nlt (by omega)), wrap_succ (n := l.length) (by omega) (cast_lt hn) (by omega)]
    rfl
  | succ d ih =>
    intro m hm
    have hm2 : m < (l.take n).length := by omega
    have e : rd_T52 (l.take n) (m : Int) = (l.take n)[m] := getIA _ m hm2
    rw [List.drop_eq_getElem_cons hm2, List.all_cons]
    by_cases c : (l.take n)[m].f0.toList = (rd_T52 l (n : Int)).f0.toList
    · rw [show neA (rd_T52 l (n : Int)) (l.take n)[m] = false from by unfold neA; simp only [c, not_true, decide_false], Bool.false_and, Bool.false_and]
      refine Ev.later fun k => ?_
      simp only [impl_Item_isGood.l1]
      rw [if_pos (cast_lt hm2), if_pos (by omega), if_pos (cast_lt hm2), e, if_pos c.symm]
    · rw [show neA (rd_T52 l (n : Int)) (l.take n)[m] = true from by unfold neA; exact decide_eq_true c, Bool.true_and]
      refine Ev.step (fun k => ?_) (ih (m + 1) (by omega))
      simp only [impl_Item_isGood.l1]
      rw [if_pos (cast_lt hm2), if_pos (by omega), if_pos (cast_lt hm2), e, if_neg (fun h => c h.symm), wrap_succ (n := (l.take n).length) (by omega) (cast_lt hm2) (by omega)]
      rfl
theorem impl_Good_l0_ev (l : List S52) (hl : smallA l) : ∀ d n, n + d = l.length → Ev (fun k => impl_Item_isGood.l0 k l (l.length : Int) (n : Int) u v w l) (attrsR l d n) := by
  intro d
  induction d with
  | zero =>
    intro n hn
    refine Ev.later fun k => ?_
    simp only [impl_Item_isGood.l0]
    rw [if_neg (cast_nlt (by omega))]
    rfl
  | succ d ih =>
    intro n hn
    have hn2 : n < l.length := by omega
    have e : rd_T52 l (n : Int) = l[n] := getIA l n hn2
    have hs := hl.2 l[n] (List.getElem_mem _)
    rw [attrsR]
    have hq := impl_isQualified_ev (rd_T52 l (n : Int)).f0 (by rw [e]; omega)
    have bad : Ev (fun k => impl_Item_isGood.j2 k (n : Int) l (l.length : Int) (n : Int) true u v w l (rd_T52 l (n : Int)).f0 (rd_T52 l (n : Int)).f1) false := Ev.later fun k => by simp only [impl_Item_isGood.j2, if_true]
    have step : ∀ k, impl_Item_isGood.l0 (k + 1) l (l.length : Int) (n : Int) u v w l = (impl_isQualified.f k ((rd_T52 l (n : Int)).f0)).bind fun t214 => (if t214 = true then ((impl_isPlain.f k ((rd_T52 l (n : Int)).f1)).bind fun t215 => (impl_Item_isGood.j2 k (n : Int) l (l.length : Int) (n : Int) (!t215) u v w l ((rd_T52 l (n : Int)).f0) ((rd_T52 l (n : Int)).f1))) else (impl_Item_isGood.j2 k (n : Int) l (l.length : Int) (n : Int) true u v w l ((rd_T52 l (n : Int)).f0) ((rd_T52 l (n : Int)).f1))) := fun k => by
      simp only [impl_Item_isGood.l0]
      rw [if_pos (cast_lt hn2), if_pos (by omega), if_pos (cast_lt hn2)]
    refine Ev.step step (Ev.bind hq ?_)
    cases qualB (rd_T52 l (n : Int)).f0 with
    | false => simp only [Bool.false_eq_true, if_false, Bool.false_and]; exact bad
    | true =>
      simp only [if_true, Bool.true_and]
      refine Ev.bind (impl_isPlain_ev _) ?_
      cases textB (rd_T52 l (n : Int)).f1 with
      | false => simp only [Bool.not_false, Bool.false_and]; exact bad
      | true =>
        simp only [Bool.not_true, Bool.true_and]
        have h := impl_Good_l1_ev u v w l hl.1 n hn2 _ (ih (n + 1) (by omega)) n 0 (by omega)
        rw [List.drop_zero] at h
        refine Ev.step (fun k => ?_) h
        simp only [impl_Item_isGood.j2, Bool.false_eq_true, if_false]
        rw [if_pos (by omega), if_pos (by omega), Option.bind_some, Int.toNat_natCast]
        rfl
end
def goodI (x : S39) : Bool := if x.f1.toList = [] then (decide (¬ x.f2.toList = []) && (textB x.f2 && decide (x.f3.length = 0))) else (qualB x.f1 && (decide (x.f2.toList = []) && attrsB x.f3))
theorem impl_isGood_ev (x : S39) (hx : smallI x) : Ev (fun k => impl_Item_isGood.f k x.f0 x.f1 x.f2 x.f3) (goodI x) := by
  obtain ⟨h1, h2, h3⟩ := hx
  have hz := h3.1
  unfold impl_Item_isGood.f goodI
  by_cases c : x.f1.toList = []
  · simp only [c, if_true]
    by_cases d : x.f2.toList = []
    · simp only [d, if_true]
      simp only [not_true, decide_false, Bool.false_and]
      exact Ev.now _
    · simp only [d, if_false, not_false_eq_true, decide_true, Bool.true_and]
      refine Ev.bind (impl_isPlain_ev _) ?_
      cases textB x.f2 with
      | false => simp only [Bool.false_eq_true, if_false, Bool.false_and]; exact Ev.now _
      | true =>
        simp only [if_true, Bool.true_and]
        rw [show ((x.f3.length : Int) == 0) = decide (x.f3.length = 0) from by by_cases e : x.f3.length = 0 <;> simp [e]]
        exact Ev.now _
  · simp only [c, if_false]
    have bad : Ev (fun k => impl_Item_isGood.j0 k true x.f0 x.f1 x.f2 x.f3) false := Ev.later fun k => by simp only [impl_Item_isGood.j0, if_true]
    refine Ev.bind (impl_isQualified_ev x.f1 (by omega)) ?_
    cases qualB x.f1 with
    | false => simp only [Bool.false_eq_true, if_false, Bool.false_and]; exact bad
    | true =>
      simp only [if_true, Bool.true_and]
      by_cases d : x.f2.toList = []
      · simp only [d, if_true, decide_true, Bool.true_and]
        unfold attrsB
        by_cases e : x.f3.length ≤ 10
        · rw [decide_eq_true e, Bool.true_and, decide_eq_false (by omega)]
          refine Ev.step (fun k => ?_) (impl_Good_l0_ev x.f0 x.f1 x.f2 x.f3 h3 x.f3.length 0 (by omega))
          simp only [impl_Item_isGood.j0, Bool.false_eq_true, if_false]
          rfl
        · rw [decide_eq_false e, Bool.false_and, decide_eq_true (by omega)]
          exact bad
      · simp only [d, if_false, decide_false, Bool.false_and]
        exact bad
def wB (x : S39) : Nat := x.f1.size + x.f2.size + wAs x.f3
theorem wAs_drop (l : List S52) (n : Nat) (h : n < l.length) : wAs (l.drop n) = wA l[n] + wAs (l.drop (n + 1)) := by rw [List.drop_eq_getElem_cons h, wAs_cons]
theorem impl_bytes_l0_ev (l : List S52) (hl : l.length ≤ 2000000) (hw : wAs l ≤ 2000000) : ∀ d n (s : Int), n + d = l.length → 0 ≤ s → s + wAs (l.drop n) ≤ 10000000 → Ev (fun k => impl_Item_bytes.l0 k s l (l.length : Int) (n : Int)) (s + wAs (l.drop n)) := by
  intro d
  induction d with
  | zero =>
    intro n s hn h0 h1
    refine Ev.later fun k => ?_
    simp only [impl_Item_bytes.l0]
    rw [if_neg (cast_nlt (by omega)), List.drop_eq_nil_of_le (by omega)]
    simp [wAs]
  | succ d ih =>
    intro n s hn h0 h1
    have hn2 : n < l.length := by omega
    have e : rd_T52 l (n : Int) = l[n] := getIA l n hn2
    have ew := wAs_drop l n hn2
    rw [ew] at h1 ⊢
    have hA : wA l[n] = l[n].f0.size + l[n].f1.size := rfl
    have h := ih (n + 1) (s + wA l[n]) (by omega) (by omega) (by omega)
    rw [show s + ((wA l[n] + wAs (l.drop (n + 1)) : Nat) : Int) = s + wA l[n] + wAs (l.drop (n + 1)) by omega]
    refine Ev.step (fun k => ?_) h
    simp only [impl_Item_bytes.l0]
    rw [if_pos (cast_lt hn2), if_pos (by omega), if_pos (cast_lt hn2), e, wrap_succ (n := l.length) (by omega) (cast_lt hn2) (by omega), w64 (x := (l[n].f0.size : Int) + (l[n].f1.size : Int)) (by omega) (by omega), w64 (by omega) (by omega)]
    rw [show s + ((l[n].f0.size : Int) + (l[n].f1.size : Int)) = s + wA l[n] by omega]
    rfl
theorem impl_bytes_ev (x : S39) (hw : wI x ≤ 2000000) : Ev (fun k => impl_Item_bytes.f k x.f0 x.f1 x.f2 x.f3) (wB x : Int) := by
  unfold impl_Item_bytes.f
  have e1 : wI x = x.f1.size + x.f2.size + x.f3.length + wAs x.f3 := rfl
  have e2 : wB x = x.f1.size + x.f2.size + wAs x.f3 := rfl
  rw [w64 (x := (x.f1.size : Int) + (x.f2.size : Int)) (by omega) (by omega)]
  have h := impl_bytes_l0_ev x.f3 (by omega) (by omega) x.f3.length 0 ((x.f1.size : Int) + (x.f2.size : Int)) (by omega) (by omega) (by rw [List.drop_zero]; omega)
  rw [List.drop_zero] at h
  rw [show ((wB x : Nat) : Int) = (x.f1.size : Int) + (x.f2.size : Int) + wAs x.f3 by omega]
  exact h
end Go.Proofs.YtbhklkpjjpkblaaGreatDoor.PP
namespace Go.Proofs.YtbhklkpjjpkblaaGreatDoor.PP
open Go.RowKit Go.Proofs.YtbhklkpjjpkblaaGreatDoorW.PrintWords Go.Proofs.YtbhklkpjjpkblaaGreatDoorW.PrintMore
set_option linter.unusedVariables false
set_option linter.unusedSimpArgs false
def Ch (L : List S39) : List Nat → Prop
  | [] => False
  | [j] => j < L.length ∧ (rd_T39 L (j : Int)).f0 = -1
  | j :: e :: C => j < L.length ∧ (rd_T39 L (j : Int)).f0 = (e : Int) ∧ Ch L (e :: C)
def stk (L : List S39) (i : Nat) (C : List Nat) : List Nat := if (rd_T39 L ((i - 1 : Nat) : Int)).f1.toList = [] then C.tail else C
def notUp (L : List S39) (i : Nat) (e : Nat) : Bool := decide (¬ (e : Int) = (rd_T39 L (i : Int)).f0)
def pop (L : List S39) (i : Nat) (C : List Nat) : List Nat := (stk L i C).dropWhile (notUp L i)
def twin (L : List S39) (i : Nat) : Prop := (rd_T39 L (i : Int)).f1.toList = [] ∧ (rd_T39 L ((i - 1 : Nat) : Int)).f1.toList = [] ∧ (rd_T39 L ((i - 1 : Nat) : Int)).f0 = (rd_T39 L (i : Int)).f0
instance (L : List S39) (i : Nat) : Decidable (twin L i) := by unfold twin; infer_instance
def linkB (L : List S39) (i : Nat) (C : List Nat) : Bool := decide (¬ pop L i C = []) && (decide ((pop L i C).length < 20) && decide (¬ twin L i))
def docR (L : List S39) : Nat → Nat → List Nat → Int → Bool
  | 0, _, _, s => decide (s ≤ 2500)
  | d + 1, i, C, s => goodI (rd_T39 L (i : Int)) && (linkB L i C && docR L d (i + 1) (i :: pop L i C) (s + wB (rd_T39 L (i : Int))))
theorem docR_big (L : List S39) : ∀ d i C (s : Int), 2500 < s → docR L d i C s = false
  | 0, _, _, s, h => by rw [docR]; exact decide_eq_false (by omega)
  | d + 1, i, C, s, h => by rw [docR, docR_big L d _ _ _ (by omega)]; simp
theorem Ch_drop (L : List S39) (p : Nat → Bool) : ∀ C, Ch L C → C.dropWhile p = [] ∨ Ch L (C.dropWhile p)
  | [], h => h.elim
  | [j], h => by
    rw [List.dropWhile_cons]
    split
    · left; rfl
    · right; exact h
  | j :: a :: C, h => by
    rw [List.dropWhile_cons]
    split
    · exact Ch_drop L p (a :: C) h.2.2
    · right; exact h
theorem Ch_tail (L : List S39) : ∀ C, Ch L C → C.tail = [] ∨ Ch L C.tail
  | [], h => h.elim
  | [j], _ => Or.inl rfl
  | j :: a :: C, h => Or.inr h.2.2
theorem drop_head (p : Nat → Bool) : ∀ (C : List Nat) (e : Nat) (T : List Nat), C.dropWhile p = e :: T → p e = false ∧ e ∈ C ∧ (∀ x ∈ T, x ∈ C) ∧ (e :: T).length ≤ C.length
  | [], _, _, h => by simp at h
  | a :: C, e, T, h => by
    rw [List.dropWhile_cons] at h
    by_cases c : p a = true
    · rw [if_pos c] at h
      obtain ⟨h1, h2, h3, h4⟩ := drop_head p C e T h
      exact ⟨h1, List.mem_cons_of_mem _ h2, fun x hx => List.mem_cons_of_mem _ (h3 x hx), by simp only [List.length_cons] at h4 ⊢; omega⟩
    · rw [if_neg c] at h
      injection h with ha hT
      subst ha hT
      exact ⟨Bool.eq_false_iff.mpr c, List.mem_cons_self .., fun x hx => List.mem_cons_of_mem _ hx, Nat.le_refl _⟩
theorem drop_none (p : Nat → Bool) : ∀ (C : List Nat), C.dropWhile p = [] → ∀ e ∈ C, p e = true
  | [], _, _, h => by simp at h
  | a :: C, h, e, he => by
    rw [List.dropWhile_cons] at h
    by_cases c : p a = true
    · rw [if_pos c] at h
      rcases List.mem_cons.1 he with e1 | e1
      · rw [e1]; exact c
      · exact drop_none p C h e e1
    · rw [if_neg c] at h; cases h
structure Inv (L : List S39) (i : Nat) (C : List Nat) : Prop where
  ch : Ch L C
  hd : C.head? = some (i - 1)
  lt : ∀ e ∈ C, e < i
  el : ∀ e ∈ C.tail, ¬ (rd_T39 L (e : Int)).f1.toList = []
  pos : 1 ≤ i
theorem Inv.stk_el {L : List S39} {i : Nat} {C : List Nat} (h : Inv L i C) : ∀ e ∈ stk L i C, ¬ (rd_T39 L (e : Int)).f1.toList = [] := by
  intro e he
  unfold stk at he
  split at he
  · exact h.el e he
  · rename_i hn
    have hd := h.hd
    cases C with
    | nil => simp at he
    | cons a C =>
      simp only [List.head?_cons, Option.some.injEq] at hd
      rcases List.mem_cons.1 he with e1 | e1
      · rw [e1, hd]; exact hn
      · exact h.el e e1
theorem Inv.stk_in {L : List S39} {i : Nat} {C : List Nat} (h : Inv L i C) : ∀ e ∈ stk L i C, e ∈ C := by
  intro e he
  unfold stk at he
  split at he
  · exact List.mem_of_mem_tail he
  · exact he
theorem Inv.in_stk {L : List S39} {i : Nat} {C : List Nat} (h : Inv L i C) : ∀ e ∈ C, ¬ (rd_T39 L (e : Int)).f1.toList = [] → e ∈ stk L i C := by
  intro e he hn
  unfold stk
  split
  · rename_i ht
    have hd := h.hd
    cases C with
    | nil => simp at he
    | cons a C =>
      simp only [List.head?_cons, Option.some.injEq] at hd
      rcases List.mem_cons.1 he with e1 | e1
      · rw [e1, hd] at hn; exact absurd ht hn
      · exact e1
  · exact he
theorem Inv.stk_ch {L : List S39} {i : Nat} {C : List Nat} (h : Inv L i C) : stk L i C = [] ∨ Ch L (stk L i C) := by
  unfold stk
  split
  · exact Ch_tail L C h.ch
  · exact Or.inr h.ch
theorem Inv.pop_ch {L : List S39} {i : Nat} {C : List Nat} (h : Inv L i C) : pop L i C = [] ∨ Ch L (pop L i C) := by
  unfold pop
  rcases h.stk_ch with e | e
  · rw [e]; left; rfl
  · exact Ch_drop L _ _ e
theorem Inv.pop_in {L : List S39} {i : Nat} {C : List Nat} (h : Inv L i C) : ∀ e ∈ pop L i C, e ∈ stk L i C := fun e he => (List.dropWhile_sublist _).subset he
theorem Inv.next {L : List S39} {i : Nat} {C : List Nat} (h : Inv L i C) (hi : i < L.length) (hp : ¬ pop L i C = []) : Inv L (i + 1) (i :: pop L i C) := by
  have hc := h.pop_ch.resolve_left hp
  obtain ⟨e, T, eT⟩ := List.exists_cons_of_ne_nil hp
  have hh := drop_head _ _ e T (show (stk L i C).dropWhile (notUp L i) = e :: T from eT)
  have hu : (e : Int) = (rd_T39 L (i : Int)).f0 := by
    have := hh.1
    unfold notUp at this
    simpa using this
  refine ⟨?_, rfl, fun x hx => ?_, fun x hx => h.stk_el x (h.pop_in x hx), by omega⟩
  · rw [eT] at hc ⊢
    exact ⟨hi, hu.symm, hc⟩
  · rcases List.mem_cons.1 hx with e1 | e1
    · omega
    · have := h.lt x (h.stk_in x (h.pop_in x e1)); omega
theorem walk_hit (L : List S39) (hL : L.length ≤ 200) (s x4 u : Int) (v w : ByteArray) (z : List S52) (r : Bool) (hr : Ev (fun k => spec_DocOk.j6 k L s x4 u v w z) r) : ∀ C, Ch L C → ∀ e ∈ C, (e : Int) = u → ∀ a, C.head? = some a → Ev (fun k => spec_DocOk.l2 k L s x4 (a : Int) u v w z) r
  | [], h, _, _, _, _, _ => h.elim
  | [j], h, e, he, eu, a, ha => by
    simp only [List.head?_cons, Option.some.injEq] at ha
    rw [List.mem_singleton] at he
    subst ha he
    refine Ev.step (fun k => ?_) hr
    simp only [spec_DocOk.l2]
    rw [if_pos (by omega), if_pos eu, if_neg (by omega)]
  | j :: b :: C, h, e, he, eu, a, ha => by
    simp only [List.head?_cons, Option.some.injEq] at ha
    subst ha
    by_cases c : (j : Int) = u
    · refine Ev.step (fun k => ?_) hr
      simp only [spec_DocOk.l2]
      rw [if_pos (by omega), if_pos c, if_neg (by omega)]
    · have he2 : e ∈ b :: C := by
        rcases List.mem_cons.1 he with e1 | e1
        · rw [e1] at eu; exact absurd eu c
        · exact e1
      refine Ev.step (fun k => ?_) (walk_hit L hL s x4 u v w z r hr (b :: C) h.2.2 e he2 eu b rfl)
      simp only [spec_DocOk.l2]
      rw [if_pos (by omega), if_neg c, if_pos (by omega), if_pos (by have := h.1; omega), h.2.1]
theorem walk_miss (L : List S39) (hL : L.length ≤ 200) (s x4 u : Int) (v w : ByteArray) (z : List S52) : ∀ C, Ch L C → (∀ e ∈ C, ¬ (e : Int) = u) → ∀ a, C.head? = some a → Ev (fun k => spec_DocOk.l2 k L s x4 (a : Int) u v w z) false
  | [], h, _, _, _ => h.elim
  | [j], h, hn, a, ha => by
    simp only [List.head?_cons, Option.some.injEq] at ha
    subst ha
    refine Ev.step (f := fun k => spec_DocOk.l2 k L s x4 (-1) u v w z) (fun k => ?_) (Ev.later fun k => ?_)
    · simp only [spec_DocOk.l2]
      rw [if_pos (by omega), if_neg (hn j (List.mem_cons_self ..)), if_pos (by omega), if_pos (by have := h.1; omega), h.2]
    · simp only [spec_DocOk.l2]
      rw [if_neg (by omega), if_pos (by omega)]
  | j :: b :: C, h, hn, a, ha => by
    simp only [List.head?_cons, Option.some.injEq] at ha
    subst ha
    refine Ev.step (fun k => ?_) (walk_miss L hL s x4 u v w z (b :: C) h.2.2 (fun e he => hn e (List.mem_cons_of_mem _ he)) b rfl)
    simp only [spec_DocOk.l2]
    rw [if_pos (by omega), if_neg (hn j (List.mem_cons_self ..)), if_pos (by omega), if_pos (by have := h.1; omega), h.2.1]
theorem deep_ev (L : List S39) (hL : L.length ≤ 200) : ∀ C, Ch L C → ∀ a, C.head? = some a → ∀ n : Int, 0 ≤ n → n + C.length ≤ 1000 → Ev (fun k => spec_l2Deep.l0 k L (a : Int) n) (n + C.length - 1)
  | [], h, _, _, _, _, _ => h.elim
  | [j], h, a, ha, n, _, _ => by
    simp only [List.head?_cons, Option.some.injEq] at ha
    subst ha
    refine Ev.later fun k => ?_
    simp only [spec_l2Deep.l0]
    rw [if_pos (by omega), if_pos (by have := h.1; omega), h.2, if_neg (by omega)]
    congr 1
    simp
  | j :: b :: C, h, a, ha, n, h0, h1 => by
    simp only [List.head?_cons, Option.some.injEq] at ha
    subst ha
    have hj := h.1
    have h1' : n + 1 + ((b :: C).length : Int) ≤ 1000 := by simp only [List.length_cons] at h1 ⊢; omega
    have ih := deep_ev L hL (b :: C) h.2.2 b rfl (n + 1) (by omega) h1'
    rw [show n + ((j :: b :: C).length : Int) - 1 = n + 1 + ((b :: C).length : Int) - 1 by simp only [List.length_cons]; omega]
    refine Ev.step (fun k => ?_) ih
    simp only [spec_l2Deep.l0]
    rw [if_pos (by omega), if_pos (by omega), h.2.1, if_pos (by omega), w64 (by omega) (by omega)]
def St (S : List Nat) : List Int := S.reverse.map fun e : Nat => (e : Int)
theorem St_cons (e : Nat) (S : List Nat) : St (e :: S) = St S ++ [(e : Int)] := by simp [St]
theorem St_length (S : List Nat) : (St S).length = S.length := by simp [St]
theorem St_last (e : Nat) (S : List Nat) : rd (St (e :: S)) ((S.length : Nat) : Int) = (e : Int) := by
  rw [St_cons]
  unfold rd
  rw [List.getD_eq_getElem?_getD, Int.toNat_natCast, List.getElem?_append_right (by rw [St_length]; exact Nat.le_refl _), St_length]
  simp
theorem St_take (e : Nat) (S : List Nat) : (St (e :: S)).take S.length = St S := by
  rw [St_cons, List.take_append_of_le_length (by rw [St_length]; exact Nat.le_refl _), List.take_of_length_le (by rw [St_length]; exact Nat.le_refl _)]
theorem pop_ev (L : List S39) (s : Int) (i : Nat) (M : List S39) (n m : Int) (v w : ByteArray) (z : List S52) (r : Bool) : ∀ S : List Nat, S.length ≤ 1000 → Ev (fun k => impl_DocOk.j3 k L s (St (S.dropWhile (notUp L i))) (i : Int) M n m (rd_T39 L (i : Int)).f0 v w z) r → Ev (fun k => impl_DocOk.l1 k L s (St S) (i : Int) M n m (rd_T39 L (i : Int)).f0 v w z) r
  | [], _, hr => by
    refine Ev.step (fun k => ?_) hr
    simp only [impl_DocOk.l1]
    rw [if_neg (by simp [St])]
    rfl
  | e :: S, hl, hr => by
    simp only [List.length_cons] at hl
    have e1 : ((St (e :: S)).length : Int) = (S.length : Int) + 1 := by rw [St_length]; simp
    have e2 : wrap64 (((St (e :: S)).length : Int) - 1) = (S.length : Int) := by rw [e1, w64 (by omega) (by omega)]; omega
    rw [List.dropWhile_cons] at hr
    by_cases c : (e : Int) = (rd_T39 L (i : Int)).f0
    · rw [if_neg (by unfold notUp; simp [c])] at hr
      refine Ev.step (fun k => ?_) hr
      simp only [impl_DocOk.l1]
      rw [e2, if_pos (by omega), if_pos (by omega), if_pos (by omega), St_last, if_pos c]
    · rw [if_pos (by unfold notUp; exact decide_eq_true c)] at hr
      refine Ev.step (fun k => ?_) (pop_ev L s i M n m v w z r S (by omega) hr)
      simp only [impl_DocOk.l1]
      rw [e2, if_pos (by omega), if_pos (by omega), if_pos (by omega), St_last, if_neg c, if_pos (by omega), Int.toNat_natCast, St_take]
def smallL (L : List S39) : Prop := L.length ≤ 200 ∧ (∀ x ∈ L, smallI x) ∧ wIs L ≤ 1048576
theorem wIs_drop (l : List S39) (n : Nat) (h : n < l.length) : wIs (l.drop n) = wI l[n] + wIs (l.drop (n + 1)) := by rw [List.drop_eq_getElem_cons h, wIs_cons]
theorem wIs_le (l : List S39) : ∀ n, wIs (l.drop n) ≤ wIs l
  | 0 => by rw [List.drop_zero]; exact Nat.le_refl _
  | n + 1 => by
    have := wIs_le l n
    by_cases h : n < l.length
    · have := wIs_drop l n h; omega
    · rw [List.drop_eq_nil_of_le (by omega)]; simp [wIs]
theorem impl_Doc_l0_ev (L : List S39) (hL : smallL L) : ∀ d i C (s : Int), i + d = L.length → Inv L i C → C.length ≤ 21 → 0 ≤ s → s + wIs (L.drop i) ≤ 2000000 → Ev (fun k => impl_DocOk.l0 k L s (St (stk L i C)) L (L.length : Int) (i : Int)) (docR L d i C s) := by
  have h200 := hL.1
  intro d
  induction d with
  | zero =>
    intro i C s hi _ _ _ _
    refine Ev.later fun k => ?_
    simp only [impl_DocOk.l0]
    rw [if_neg (cast_nlt (by omega))]
    rfl
  | succ d ih =>
    intro i C s hi hI hC h0 hs
    have hi2 : i < L.length := by omega
    have e : rd_T39 L (i : Int) = L[i] := getII L i hi2
    have hx : smallI (rd_T39 L (i : Int)) := by rw [e]; exact hL.2.1 _ (List.getElem_mem _)
    have hw : wIs (L.drop i) = wI (rd_T39 L (i : Int)) + wIs (L.drop (i + 1)) := by rw [e]; exact wIs_drop L i hi2
    have hw1 : wI (rd_T39 L (i : Int)) = (rd_T39 L (i : Int)).f1.size + (rd_T39 L (i : Int)).f2.size + (rd_T39 L (i : Int)).f3.length + wAs (rd_T39 L (i : Int)).f3 := rfl
    have hw2 : wB (rd_T39 L (i : Int)) = (rd_T39 L (i : Int)).f1.size + (rd_T39 L (i : Int)).f2.size + wAs (rd_T39 L (i : Int)).f3 := rfl
    have hpos := hI.pos
    have hp1 : wrap64 ((i : Int) - 1) = ((i - 1 : Nat) : Int) := by rw [w64 (by omega) (by omega)]; omega
    rw [docR]
    have step : ∀ k, impl_DocOk.l0 (k + 1) L s (St (stk L i C)) L (L.length : Int) (i : Int) = (impl_Item_isGood.f k (rd_T39 L (i : Int)).f0 (rd_T39 L (i : Int)).f1 (rd_T39 L (i : Int)).f2 (rd_T39 L (i : Int)).f3).bind fun t233 => (if t233 = true then ((impl_Item_bytes.f k (rd_T39 L (i : Int)).f0 (rd_T39 L (i : Int)).f1 (rd_T39 L (i : Int)).f2 (rd_T39 L (i : Int)).f3).bind fun t234 => (impl_DocOk.l1 k L (wrap64 (s + t234)) (St (stk L i C)) (i : Int) L (L.length : Int) (i : Int) (rd_T39 L (i : Int)).f0 (rd_T39 L (i : Int)).f1 (rd_T39 L (i : Int)).f2 (rd_T39 L (i : Int)).f3)) else (some false)) := fun k => by
      simp only [impl_DocOk.l0]
      rw [if_pos (cast_lt hi2), if_pos (by omega), if_pos (cast_lt hi2)]
    refine Ev.step step (Ev.bind (impl_isGood_ev _ hx) ?_)
    cases goodI (rd_T39 L (i : Int)) with
    | false => simp only [Bool.false_eq_true, if_false, Bool.false_and]; exact Ev.now _
    | true =>
      simp only [if_true, Bool.true_and]
      refine Ev.bind (impl_bytes_ev _ (by omega)) ?_
      rw [w64 (x := s + (wB (rd_T39 L (i : Int)) : Int)) (by omega) (by omega)]
      have hsl : (stk L i C).length ≤ 1000 := by
        unfold stk
        split
        · rw [List.length_tail]; omega
        · omega
      refine pop_ev L _ i L _ _ _ _ _ _ (stk L i C) hsl ?_
      show Ev (fun k => impl_DocOk.j3 k L (s + (wB (rd_T39 L (i : Int)) : Int)) (St (pop L i C)) (i : Int) L (L.length : Int) (i : Int) (rd_T39 L (i : Int)).f0 (rd_T39 L (i : Int)).f1 (rd_T39 L (i : Int)).f2 (rd_T39 L (i : Int)).f3) _
      have bad : Ev (fun k => impl_DocOk.j4 k L (s + (wB (rd_T39 L (i : Int)) : Int)) (St (pop L i C)) (i : Int) L (L.length : Int) (i : Int) true (rd_T39 L (i : Int)).f0 (rd_T39 L (i : Int)).f1 (rd_T39 L (i : Int)).f2 (rd_T39 L (i : Int)).f3) false := Ev.later fun k => by simp only [impl_DocOk.j4, if_true]
      unfold linkB
      by_cases hp : pop L i C = []
      · rw [decide_eq_false (show ¬ ¬ pop L i C = [] from fun h => h hp), Bool.false_and, Bool.false_and]
        refine Ev.step (fun k => ?_) bad
        simp only [impl_DocOk.j3]
        rw [if_pos (by omega), if_pos (by rw [hp]; rfl)]
      · rw [decide_eq_true hp, Bool.true_and]
        have hne : ¬ ((St (pop L i C)).length : Int) = 0 := by
          rw [St_length]
          have := List.length_pos_iff.2 hp
          omega
        have j3 : ∀ r, Ev (fun k => impl_DocOk.j4 k L (s + (wB (rd_T39 L (i : Int)) : Int)) (St (pop L i C)) (i : Int) L (L.length : Int) (i : Int) (decide (((St (pop L i C)).length : Int) ≥ 20)) (rd_T39 L (i : Int)).f0 (rd_T39 L (i : Int)).f1 (rd_T39 L (i : Int)).f2 (rd_T39 L (i : Int)).f3) r → Ev (fun k => impl_DocOk.j3 k L (s + (wB (rd_T39 L (i : Int)) : Int)) (St (pop L i C)) (i : Int) L (L.length : Int) (i : Int) (rd_T39 L (i : Int)).f0 (rd_T39 L (i : Int)).f1 (rd_T39 L (i : Int)).f2 (rd_T39 L (i : Int)).f3) r := fun r h => by
          refine Ev.step (fun k => ?_) h
          simp only [impl_DocOk.j3]
          rw [if_pos (by omega), if_neg hne]
        refine j3 _ ?_
        rw [St_length]
        by_cases h20 : (pop L i C).length < 20
        · rw [decide_eq_true h20, Bool.true_and, decide_eq_false (by omega)]
          have hn := hI.next hi2 hp
          have hk := ih (i + 1) (i :: pop L i C) (s + (wB (rd_T39 L (i : Int)) : Int)) (by omega) hn (by simp only [List.length_cons]; omega) (by omega) (by omega)
          have hi1 : i + 1 - 1 = i := by omega
          by_cases ht : (rd_T39 L (i : Int)).f1.toList = []
          · have es : stk L (i + 1) (i :: pop L i C) = pop L i C := by unfold stk; rw [hi1, if_pos ht]; rfl
            rw [es] at hk
            by_cases hprev : (rd_T39 L ((i - 1 : Nat) : Int)).f1.toList = []
            · by_cases hup : (rd_T39 L ((i - 1 : Nat) : Int)).f0 = (rd_T39 L (i : Int)).f0
              · rw [decide_eq_false (show ¬ ¬ twin L i from fun h => h ⟨ht, hprev, hup⟩), Bool.false_and]
                refine Ev.later fun k => ?_
                simp only [impl_DocOk.j4, Bool.false_eq_true, if_false]
                rw [if_pos ht, if_pos (by omega), hp1, if_pos (by omega), if_pos (by omega), if_pos hprev, if_pos hup]
              · rw [decide_eq_true (show ¬ twin L i from fun h => hup h.2.2), Bool.true_and]
                refine Ev.step (fun k => ?_) hk
                simp only [impl_DocOk.j4, Bool.false_eq_true, if_false]
                rw [if_pos ht, if_pos (by omega), hp1, if_pos (by omega), if_pos (by omega), if_pos hprev, if_neg hup, wrap_succ (n := L.length) (by omega) (cast_lt hi2) (by omega)]
                rfl
            · rw [decide_eq_true (show ¬ twin L i from fun h => hprev h.2.1), Bool.true_and]
              refine Ev.step (fun k => ?_) hk
              simp only [impl_DocOk.j4, Bool.false_eq_true, if_false]
              rw [if_pos ht, if_pos (by omega), hp1, if_pos (by omega), if_pos (by omega), if_neg hprev, wrap_succ (n := L.length) (by omega) (cast_lt hi2) (by omega)]
              rfl
          · have es : stk L (i + 1) (i :: pop L i C) = i :: pop L i C := by unfold stk; rw [hi1, if_neg ht]
            rw [es, St_cons] at hk
            rw [decide_eq_true (show ¬ twin L i from fun h => ht h.1), Bool.true_and]
            refine Ev.step (fun k => ?_) hk
            simp only [impl_DocOk.j4, Bool.false_eq_true, if_false]
            rw [if_neg ht, if_pos (by rw [St_length]; omega), wrap_succ (n := L.length) (by omega) (cast_lt hi2) (by omega)]
            rfl
        · rw [decide_eq_false h20, Bool.false_and, Bool.false_and, decide_eq_true (by omega)]
          exact bad
theorem wAs_take (l : List S52) : ∀ n, wAs (l.take n) ≤ wAs l := by
  induction l with
  | nil => intro n; simp [wAs]
  | cons a l ih =>
    intro n
    cases n with
    | zero => simp [wAs]
    | succ n =>
      have := ih n
      rw [List.take_succ_cons, wAs_cons, wAs_cons]
      omega
theorem spec_Doc_l1_ev (L : List S39) (i u : Int) (v w : ByteArray) (z : List S52) (hz : z.length ≤ 2000000) (r : Bool) : ∀ d n (s : Int), n + d = (z.take 20).length → 0 ≤ s → s + wAs ((z.take 20).drop n) ≤ 10000000 → Ev (fun k => spec_DocOk.j3 k L (s + wAs ((z.take 20).drop n)) i u v w z) r → Ev (fun k => spec_DocOk.l1 k L s i (n : Int) u v w z) r := by
  intro d
  induction d with
  | zero =>
    intro n s hn h0 h1 hr
    rw [List.drop_eq_nil_of_le (by omega)] at hr
    have hr : Ev (fun k => spec_DocOk.j3 k L s i u v w z) r := by simpa [wAs] using hr
    refine Ev.step (fun k => ?_) hr
    simp only [spec_DocOk.l1]
    rw [List.length_take] at hn
    by_cases c : (n : Int) < (z.length : Int)
    · rw [if_pos c, if_neg (by omega)]
    · rw [if_neg c]
  | succ d ih =>
    intro n s hn h0 h1 hr
    have hn2 : n < (z.take 20).length := by omega
    have hl : (z.take 20).length = min 20 z.length := List.length_take
    have hn3 : n < z.length := by omega
    have e : rd_T52 z (n : Int) = z[n] := getIA z n hn3
    have ew := wAs_drop (z.take 20) n hn2
    rw [List.getElem_take] at ew
    have hA : wA z[n] = z[n].f0.size + z[n].f1.size := rfl
    rw [ew] at h1
    rw [ew, show s + ((wA z[n] + wAs ((z.take 20).drop (n + 1)) : Nat) : Int) = s + wA z[n] + wAs ((z.take 20).drop (n + 1)) by omega] at hr
    have h := ih (n + 1) (s + wA z[n]) (by omega) (by omega) (by omega) hr
    refine Ev.step (fun k => ?_) h
    simp only [spec_DocOk.l1]
    rw [if_pos (cast_lt hn3), if_pos (by omega), if_pos (by omega), e, wrap_succ (n := z.length) (by omega) (cast_lt hn3) (by omega), w64 (x := s + (z[n].f0.size : Int)) (by omega) (by omega), w64 (x := s + (z[n].f0.size : Int) + (z[n].f1.size : Int)) (by omega) (by omega), show s + (z[n].f0.size : Int) + (z[n].f1.size : Int) = s + wA z[n] by omega]
    rfl
def limB (x : S39) : Nat := x.f1.size + x.f2.size + wAs (x.f3.take 20)
theorem lim_good (x : S39) (h : goodI x = true) : limB x = wB x := by
  unfold limB wB
  rw [List.take_of_length_le]
  unfold goodI at h
  split at h
  · simp only [Bool.and_eq_true, decide_eq_true_eq] at h
    omega
  · unfold attrsB at h
    simp only [Bool.and_eq_true, decide_eq_true_eq] at h
    omega
theorem spec_Doc_j6_ev (L : List S39) (hL : smallL L) (i : Nat) (hi : i < L.length) (hpos : 1 ≤ i) (s dp : Int) (hd : Ev (fun k => spec_l2Deep.f k L (i : Int)) dp) (r : Bool) (hr : dp < 20 → goodI (rd_T39 L (i : Int)) = true → ¬ twin L i → Ev (fun k => spec_DocOk.l0 k L s ((i + 1 : Nat) : Int)) r) :
    Ev (fun k => spec_DocOk.j6 k L s (i : Int) (rd_T39 L (i : Int)).f0 (rd_T39 L (i : Int)).f1 (rd_T39 L (i : Int)).f2 (rd_T39 L (i : Int)).f3) (decide (dp < 20) && (goodI (rd_T39 L (i : Int)) && (decide (¬ twin L i) && r))) := by
  have h200 := hL.1
  have e : rd_T39 L (i : Int) = L[i] := getII L i hi
  have hx : smallI (rd_T39 L (i : Int)) := by rw [e]; exact hL.2.1 _ (List.getElem_mem _)
  have hp1 : wrap64 ((i : Int) - 1) = ((i - 1 : Nat) : Int) := by rw [w64 (by omega) (by omega)]; omega
  have hz := hx.2.2.1
  refine Ev.step (f := fun k => (spec_l2Deep.f k L (i : Int)).bind fun t153 => (if t153 ≥ 20 then (some false) else (if (rd_T39 L (i : Int)).f1.toList = ([] : List UInt8) then (if (rd_T39 L (i : Int)).f2.toList = ([] : List UInt8) then (spec_DocOk.j7 k L s (i : Int) true (rd_T39 L (i : Int)).f0 (rd_T39 L (i : Int)).f1 (rd_T39 L (i : Int)).f2 (rd_T39 L (i : Int)).f3) else (if ((rd_T39 L (i : Int)).f3.length : Int) > 0 then (spec_DocOk.j7 k L s (i : Int) true (rd_T39 L (i : Int)).f0 (rd_T39 L (i : Int)).f1 (rd_T39 L (i : Int)).f2 (rd_T39 L (i : Int)).f3) else ((spec_l1Text.f k (rd_T39 L (i : Int)).f2).bind fun t154 => (spec_DocOk.j7 k L s (i : Int) (!t154) (rd_T39 L (i : Int)).f0 (rd_T39 L (i : Int)).f1 (rd_T39 L (i : Int)).f2 (rd_T39 L (i : Int)).f3)))) else (if (rd_T39 L (i : Int)).f2.toList = ([] : List UInt8) then ((spec_l1Qual.f k (rd_T39 L (i : Int)).f1).bind fun t157 => (if t157 = true then ((spec_l2Attrs.f k (rd_T39 L (i : Int)).f3).bind fun t158 => (if t158 = true then (spec_DocOk.l0 k L s (wrap64 ((i : Int) + 1))) else (some false))) else (some false))) else (some false))))) (fun k => by simp only [spec_DocOk.j6]) (Ev.bind hd ?_)
  · by_cases c20 : dp ≥ 20
    · simp only [c20, if_true]
      rw [decide_eq_false (by omega), Bool.false_and]
      exact Ev.now _
    simp only [c20, if_false]
    rw [decide_eq_true (show dp < 20 by omega), Bool.true_and]
    have j7 : ∀ b : Bool, (rd_T39 L (i : Int)).f1.toList = [] → (b = true → goodI (rd_T39 L (i : Int)) = true) → Ev (fun k => spec_DocOk.j7 k L s (i : Int) (!b) (rd_T39 L (i : Int)).f0 (rd_T39 L (i : Int)).f1 (rd_T39 L (i : Int)).f2 (rd_T39 L (i : Int)).f3) (b && (decide (¬ twin L i) && r)) := by
      intro b ht hgd
      cases b with
      | false => exact Ev.later fun k => by simp only [spec_DocOk.j7, Bool.not_false, if_true, Bool.false_and]
      | true =>
        rw [Bool.true_and]
        by_cases hprev : (rd_T39 L ((i - 1 : Nat) : Int)).f1.toList = []
        · by_cases hup : (rd_T39 L ((i - 1 : Nat) : Int)).f0 = (rd_T39 L (i : Int)).f0
          · rw [decide_eq_false (show ¬ ¬ twin L i from fun h => h ⟨ht, hprev, hup⟩), Bool.false_and]
            refine Ev.later fun k => ?_
            simp only [spec_DocOk.j7, Bool.not_true, Bool.false_eq_true, if_false]
            rw [hp1, if_pos (by omega), if_pos (by omega), if_pos hprev, if_pos hup]
          · rw [decide_eq_true (show ¬ twin L i from fun h => hup h.2.2), Bool.true_and]
            refine Ev.step (fun k => ?_) (hr (by omega) (hgd rfl) (fun h => hup h.2.2))
            simp only [spec_DocOk.j7, Bool.not_true, Bool.false_eq_true, if_false]
            rw [hp1, if_pos (by omega), if_pos (by omega), if_pos hprev, if_neg hup, wrap_succ (n := L.length) (by omega) (cast_lt hi) (by omega)]
            rfl
        · rw [decide_eq_true (show ¬ twin L i from fun h => hprev h.2.1), Bool.true_and]
          refine Ev.step (fun k => ?_) (hr (by omega) (hgd rfl) (fun h => hprev h.2.1))
          simp only [spec_DocOk.j7, Bool.not_true, Bool.false_eq_true, if_false]
          rw [hp1, if_pos (by omega), if_pos (by omega), if_neg hprev, wrap_succ (n := L.length) (by omega) (cast_lt hi) (by omega)]
          rfl
    have hgu : goodI (rd_T39 L (i : Int)) = (if (rd_T39 L (i : Int)).f1.toList = [] then (decide (¬ (rd_T39 L (i : Int)).f2.toList = []) && (textB (rd_T39 L (i : Int)).f2 && decide ((rd_T39 L (i : Int)).f3.length = 0))) else (qualB (rd_T39 L (i : Int)).f1 && (decide ((rd_T39 L (i : Int)).f2.toList = []) && attrsB (rd_T39 L (i : Int)).f3))) := rfl
    have hgl := hgu
    rw [hgu]
    by_cases ht : (rd_T39 L (i : Int)).f1.toList = []
    · simp only [ht, if_true]
      by_cases hw : (rd_T39 L (i : Int)).f2.toList = []
      · simp only [hw, if_true, not_true, decide_false, Bool.false_and]
        have := j7 false ht (fun h => by cases h)
        simpa using this
      · simp only [hw, if_false, not_false_eq_true, decide_true, Bool.true_and]
        by_cases hl : ((rd_T39 L (i : Int)).f3.length : Int) > 0
        · simp only [hl, if_true]
          rw [decide_eq_false (show ¬ (rd_T39 L (i : Int)).f3.length = 0 by omega), Bool.and_false, Bool.false_and]
          have := j7 false ht (fun h => by cases h)
          simpa using this
        · simp only [hl, if_false]
          rw [decide_eq_true (show (rd_T39 L (i : Int)).f3.length = 0 by omega), Bool.and_true]
          exact Ev.bind (spec_l1Text_ev _) (j7 _ ht (fun hb => by rw [hgl, if_pos ht, decide_eq_true hw, hb, decide_eq_true (show (rd_T39 L (i : Int)).f3.length = 0 by omega)]; rfl))
    · have htw : decide (¬ twin L i) = true := decide_eq_true (fun h => ht h.1)
      simp only [ht, if_false]
      rw [htw, Bool.true_and]
      by_cases hw : (rd_T39 L (i : Int)).f2.toList = []
      · simp only [hw, if_true, decide_true, Bool.true_and]
        have hq := spec_l1Qual_ev (rd_T39 L (i : Int)).f1 (by have := hx.1; omega)
        refine Ev.bind hq ?_
        cases hqb : qualB (rd_T39 L (i : Int)).f1 with
        | false => simp only [Bool.false_eq_true, if_false, Bool.false_and]; exact Ev.now _
        | true =>
          simp only [if_true, Bool.true_and]
          refine Ev.bind (spec_Attrs_ev _ hx.2.2) ?_
          cases hab : attrsB (rd_T39 L (i : Int)).f3 with
          | false => simp only [Bool.false_eq_true, if_false, Bool.false_and]; exact Ev.now _
          | true =>
            simp only [if_true, Bool.true_and]
            rw [wrap_succ (n := L.length) (by omega) (cast_lt hi) (by omega)]
            exact hr (by omega) (by rw [hgl, if_neg ht, hqb, decide_eq_true hw, hab]; rfl) (fun h => ht h.1)
      · simp only [hw, if_false, decide_false, Bool.false_and, Bool.and_false]
        exact Ev.now _
theorem Ev.of_eq_ {α : Type} {g : Nat → Option α} {a b : α} (h : Ev g a) (e : a = b) : Ev g b := e ▸ h
theorem spec_Doc_l0_ev (L : List S39) (hL : smallL L) : ∀ d i C (s : Int), i + d = L.length → Inv L i C → C.length ≤ 21 → 0 ≤ s → s ≤ 2500 → Ev (fun k => spec_DocOk.l0 k L s (i : Int)) (docR L d i C s) := by
  have h200 := hL.1
  intro d
  induction d with
  | zero =>
    intro i C s hi _ _ _ hs
    refine Ev.later fun k => ?_
    simp only [spec_DocOk.l0]
    rw [if_neg (cast_nlt (by omega)), docR, decide_eq_true hs]
  | succ d ih =>
    intro i C s hi hI hC h0 hs
    have hi2 : i < L.length := by omega
    have e : rd_T39 L (i : Int) = L[i] := getII L i hi2
    have hx : smallI (rd_T39 L (i : Int)) := by rw [e]; exact hL.2.1 _ (List.getElem_mem _)
    have hwx : wI (rd_T39 L (i : Int)) ≤ 1048576 := by
      have h1 := wIs_drop L i hi2
      have h2 := wIs_le L i
      have h3 := hL.2.2
      rw [e]
      omega
    have hw1 : wI (rd_T39 L (i : Int)) = (rd_T39 L (i : Int)).f1.size + (rd_T39 L (i : Int)).f2.size + (rd_T39 L (i : Int)).f3.length + wAs (rd_T39 L (i : Int)).f3 := rfl
    have hlim : limB (rd_T39 L (i : Int)) = (rd_T39 L (i : Int)).f1.size + (rd_T39 L (i : Int)).f2.size + wAs ((rd_T39 L (i : Int)).f3.take 20) := rfl
    have htk := wAs_take (rd_T39 L (i : Int)).f3 20
    have hpos := hI.pos
    have hp1 : wrap64 ((i : Int) - 1) = ((i - 1 : Nat) : Int) := by rw [w64 (by omega) (by omega)]; omega
    rw [docR]
    refine Ev.step (f := fun k => spec_DocOk.l1 k L (s + (rd_T39 L (i : Int)).f1.size + (rd_T39 L (i : Int)).f2.size) (i : Int) ((0 : Nat) : Int) (rd_T39 L (i : Int)).f0 (rd_T39 L (i : Int)).f1 (rd_T39 L (i : Int)).f2 (rd_T39 L (i : Int)).f3) (fun k => ?_) ?_
    · simp only [spec_DocOk.l0]
      rw [if_pos (cast_lt hi2), if_pos (by omega), w64 (x := s + ((rd_T39 L (i : Int)).f1.size : Int)) (by omega) (by omega), w64 (by omega) (by omega)]
      rfl
    refine spec_Doc_l1_ev L _ _ _ _ _ (by omega) _ _ 0 _ (Nat.zero_add _) (by omega) (by rw [List.drop_zero]; omega) ?_
    rw [List.drop_zero, show s + ((rd_T39 L (i : Int)).f1.size : Int) + ((rd_T39 L (i : Int)).f2.size : Int) + (wAs ((rd_T39 L (i : Int)).f3.take 20) : Int) = s + (limB (rd_T39 L (i : Int)) : Int) by omega]
    have bad : ∀ (g : Nat → Option Bool), (∀ k, g (k + 1) = some false) → Ev g false := fun g h => Ev.later h
    by_cases cbig : s + (limB (rd_T39 L (i : Int)) : Int) > 2500
    · have hf : (goodI (rd_T39 L (i : Int)) && (linkB L i C && docR L d (i + 1) (i :: pop L i C) (s + (wB (rd_T39 L (i : Int)) : Int)))) = false := by
        cases hg : goodI (rd_T39 L (i : Int)) with
        | false => rfl
        | true =>
          rw [lim_good _ hg] at cbig
          rw [docR_big L d _ _ _ (by omega)]
          simp
      rw [hf]
      refine Ev.later fun k => ?_
      simp only [spec_DocOk.j3]
      rw [if_pos cbig]
    have up : ∀ r, (Ev (fun k => (spec_l1In.f (rd_T39 L (i : Int)).f0 0 ((i - 1 : Nat) : Int)).bind fun t150 => (if t150 = true then (if 0 ≤ (rd_T39 L (i : Int)).f0 then (if (rd_T39 L (i : Int)).f0 < (L.length : Int) then (if (rd_T39 L (rd_T39 L (i : Int)).f0).f1.toList = ([] : List UInt8) then (some false) else (spec_DocOk.j4 k L (s + (limB (rd_T39 L (i : Int)) : Int)) (i : Int) (rd_T39 L (i : Int)).f0 (rd_T39 L (i : Int)).f1 (rd_T39 L (i : Int)).f2 (rd_T39 L (i : Int)).f3)) else (none)) else (none)) else (some false))) r) → Ev (fun k => spec_DocOk.j3 k L (s + (limB (rd_T39 L (i : Int)) : Int)) (i : Int) (rd_T39 L (i : Int)).f0 (rd_T39 L (i : Int)).f1 (rd_T39 L (i : Int)).f2 (rd_T39 L (i : Int)).f3) r := fun r h => by
      refine Ev.step (fun k => ?_) h
      simp only [spec_DocOk.j3]
      rw [if_neg cbig, if_neg (by omega), hp1]
    refine up _ ?_
    simp only [spec_l1In_eq, Option.bind_some, inR]
    have j4 : ∀ r, Ev (fun k => spec_DocOk.l2 k L (s + (limB (rd_T39 L (i : Int)) : Int)) (i : Int) ((i - 1 : Nat) : Int) (rd_T39 L (i : Int)).f0 (rd_T39 L (i : Int)).f1 (rd_T39 L (i : Int)).f2 (rd_T39 L (i : Int)).f3) r → Ev (fun k => spec_DocOk.j4 k L (s + (limB (rd_T39 L (i : Int)) : Int)) (i : Int) (rd_T39 L (i : Int)).f0 (rd_T39 L (i : Int)).f1 (rd_T39 L (i : Int)).f2 (rd_T39 L (i : Int)).f3) r := fun r h => by
      refine Ev.step (fun k => ?_) h
      simp only [spec_DocOk.j4]
      rw [if_pos (by omega), hp1]
    by_cases hp : pop L i C = []
    · have hf : (goodI (rd_T39 L (i : Int)) && (linkB L i C && docR L d (i + 1) (i :: pop L i C) (s + (wB (rd_T39 L (i : Int)) : Int)))) = false := by
        unfold linkB
        rw [decide_eq_false (show ¬ ¬ pop L i C = [] from fun h => h hp)]
        simp
      rw [hf]
      by_cases cin : 0 ≤ (rd_T39 L (i : Int)).f0 ∧ (rd_T39 L (i : Int)).f0 ≤ ((i - 1 : Nat) : Int)
      · have q1 := cin.1
        have q2 : (rd_T39 L (i : Int)).f0 < (L.length : Int) := by omega
        have cind := decide_eq_true cin
        simp only [cind, if_true]
        simp only [q1, q2, if_true]
        by_cases cn : (rd_T39 L (rd_T39 L (i : Int)).f0).f1.toList = []
        · simp only [cn, if_true]; exact Ev.now _
        · simp only [cn, if_false]
          refine j4 _ (walk_miss L h200 _ _ _ _ _ _ C hI.ch (fun a ha hu => ?_) (i - 1) hI.hd)
          rw [← hu] at cn
          have hs2 := hI.in_stk a ha cn
          have := drop_none _ _ hp a hs2
          unfold notUp at this
          simp only [decide_eq_true_eq] at this
          exact this hu
      · simp only [decide_eq_false cin, Bool.false_eq_true, if_false]
        exact Ev.now _
    · have hc := hI.pop_ch.resolve_left hp
      obtain ⟨a, T, eT⟩ := List.exists_cons_of_ne_nil hp
      have hh := drop_head _ _ a T (show (stk L i C).dropWhile (notUp L i) = a :: T from eT)
      have hu : (a : Int) = (rd_T39 L (i : Int)).f0 := by
        have := hh.1
        unfold notUp at this
        simpa using this
      have haC := hI.stk_in a hh.2.1
      have hlt := hI.lt a haC
      have hel := hI.stk_el a hh.2.1
      have cin : 0 ≤ (rd_T39 L (i : Int)).f0 ∧ (rd_T39 L (i : Int)).f0 ≤ ((i - 1 : Nat) : Int) := by omega
      have q1 := cin.1
      have q2 : (rd_T39 L (i : Int)).f0 < (L.length : Int) := by omega
      rw [hu] at hel
      have cind := decide_eq_true cin
      simp only [cind, if_true]
      simp only [q1, q2, hel, if_true, if_false]
      have hsl : (stk L i C).length ≤ 21 := by
        unfold stk
        split
        · rw [List.length_tail]; omega
        · exact hC
      have hpl : (pop L i C).length ≤ 21 := by rw [eT]; have := hh.2.2.2; omega
      have hdeep : Ev (fun k => spec_l2Deep.f k L (i : Int)) ((pop L i C).length : Int) := by
        unfold spec_l2Deep.f
        have h1 := deep_ev L h200 (pop L i C) hc a (by rw [eT]; rfl) 1 (by omega) (by omega)
        rw [show (1 : Int) + ((pop L i C).length : Int) - 1 = ((pop L i C).length : Int) by omega, hu] at h1
        refine Ev.step (fun k => ?_) h1
        simp only [spec_l2Deep.l0]
        rw [if_pos (by omega), if_pos (cast_lt hi2), if_pos q1, w64 (x := 0 + 1) (by omega) (by omega)]
        rfl
      refine Ev.of_eq_ (j4 _ (walk_hit L h200 _ _ _ _ _ _ (docR L d (i + 1) (i :: pop L i C) (s + (wB (rd_T39 L (i : Int)) : Int)) |> fun r => decide (((pop L i C).length : Int) < 20) && (goodI (rd_T39 L (i : Int)) && (decide (¬ twin L i) && r))) (spec_Doc_j6_ev L hL i hi2 hpos _ _ hdeep _ (fun h20 hg _ => ?_)) C hI.ch a haC hu (i - 1) hI.hd)) ?_
      · have hn := hI.next hi2 hp
        have hl := lim_good _ hg
        rw [← hl]
        exact ih (i + 1) (i :: pop L i C) (s + (limB (rd_T39 L (i : Int)) : Int)) (by omega) hn (by simp only [List.length_cons]; omega) (by omega) (by omega)
      · unfold linkB
        rw [decide_eq_true hp, Bool.true_and, show decide ((pop L i C).length < 20) = decide (((pop L i C).length : Int) < 20) from by
          by_cases q : (pop L i C).length < 20
          · rw [decide_eq_true q, decide_eq_true (show ((pop L i C).length : Int) < 20 by omega)]
          · rw [decide_eq_false q, decide_eq_false (show ¬ ((pop L i C).length : Int) < 20 by omega)]]
        cases goodI (rd_T39 L (i : Int)) <;> cases decide (((pop L i C).length : Int) < 20) <;> rfl
def docB (L : List S39) : Bool := (decide (1 ≤ L.length) && decide (L.length ≤ 200)) && ((decide ((rd_T39 L 0).f0 = -1) && decide (¬ (rd_T39 L 0).f1.toList = [])) && (goodI (rd_T39 L 0) && docR L (L.length - 1) 1 [0] (wB (rd_T39 L 0))))
theorem start_inv (L : List S39) (h : 1 ≤ L.length) (hu : (rd_T39 L 0).f0 = -1) (hn : ¬ (rd_T39 L 0).f1.toList = []) : Inv L 1 [0] := ⟨⟨by omega, hu⟩, rfl, fun e he => by rw [List.mem_singleton] at he; omega, fun e he => by simp at he, by omega⟩
theorem spec_DocOk_ev (L : List S39) (hs : L.length ≤ 1048576) (hx : ∀ x ∈ L, smallI x) (hw : wIs L ≤ 1048576) : Ev (fun k => spec_DocOk.f k L) (docB L) := by
  unfold spec_DocOk.f docB
  have bad : Ev (fun k => spec_DocOk.j0 k L true) false := Ev.later fun k => by simp only [spec_DocOk.j0, if_true]
  by_cases c1 : (L.length : Int) < 1
  · simp only [c1, if_true]
    rw [decide_eq_false (show ¬ 1 ≤ L.length by omega), Bool.false_and, Bool.false_and]
    exact bad
  simp only [c1, if_false]
  rw [decide_eq_true (show 1 ≤ L.length by omega), Bool.true_and]
  by_cases c2 : (L.length : Int) > 200
  · rw [decide_eq_true c2, decide_eq_false (show ¬ L.length ≤ 200 by omega), Bool.false_and]
    exact bad
  rw [decide_eq_false c2, decide_eq_true (show L.length ≤ 200 by omega), Bool.true_and]
  have hL : smallL L := ⟨by omega, hx, hw⟩
  have h1 : 1 ≤ L.length := by omega
  have e : rd_T39 L ((0 : Nat) : Int) = L[0] := getII L 0 h1
  have hx0 : smallI (rd_T39 L 0) := by have := hx _ (List.getElem_mem h1); rw [← e] at this; exact this
  have hwx : wI (rd_T39 L 0) ≤ 1048576 := by
    have q1 := wIs_drop L 0 h1
    have q2 := wIs_le L 0
    rw [← e] at q1
    have : wI (rd_T39 L ((0 : Nat) : Int)) ≤ 1048576 := by omega
    exact this
  have hw1 : wI (rd_T39 L 0) = (rd_T39 L 0).f1.size + (rd_T39 L 0).f2.size + (rd_T39 L 0).f3.length + wAs (rd_T39 L 0).f3 := rfl
  have hlim : limB (rd_T39 L 0) = (rd_T39 L 0).f1.size + (rd_T39 L 0).f2.size + wAs ((rd_T39 L 0).f3.take 20) := rfl
  have htk := wAs_take (rd_T39 L 0).f3 20
  refine Ev.step (f := fun k => spec_DocOk.l0 k L 0 0) (fun k => by simp only [spec_DocOk.j0, Bool.false_eq_true, if_false]) ?_
  refine Ev.step (f := fun k => spec_DocOk.l1 k L (((rd_T39 L 0).f1.size : Int) + (rd_T39 L 0).f2.size) 0 ((0 : Nat) : Int) (rd_T39 L 0).f0 (rd_T39 L 0).f1 (rd_T39 L 0).f2 (rd_T39 L 0).f3) (fun k => ?_) ?_
  · simp only [spec_DocOk.l0]
    rw [if_pos (by omega), if_pos (by omega), w64 (x := 0 + ((rd_T39 L 0).f1.size : Int)) (by omega) (by omega), w64 (by omega) (by omega), Int.zero_add]
    rfl
  refine spec_Doc_l1_ev L _ _ _ _ _ (by omega) _ _ 0 _ (Nat.zero_add _) (by omega) (by rw [List.drop_zero]; omega) ?_
  rw [List.drop_zero, show ((rd_T39 L 0).f1.size : Int) + ((rd_T39 L 0).f2.size : Int) + (wAs ((rd_T39 L 0).f3.take 20) : Int) = (limB (rd_T39 L 0) : Int) by omega]
  by_cases cbig : (limB (rd_T39 L 0) : Int) > 2500
  · have hf : ((decide ((rd_T39 L 0).f0 = -1) && decide (¬ (rd_T39 L 0).f1.toList = [])) && (goodI (rd_T39 L 0) && docR L (L.length - 1) 1 [0] (wB (rd_T39 L 0)))) = false := by
      cases hg : goodI (rd_T39 L 0) with
      | false => simp
      | true =>
        rw [lim_good _ hg] at cbig
        rw [docR_big L _ _ _ _ (by omega)]
        simp
    rw [hf]
    refine Ev.later fun k => ?_
    simp only [spec_DocOk.j3]
    rw [if_pos cbig]
  by_cases cu : (rd_T39 L 0).f0 = -1
  · rw [decide_eq_true cu, Bool.true_and]
    by_cases cn : (rd_T39 L 0).f1.toList = []
    · rw [decide_eq_false (show ¬ ¬ (rd_T39 L 0).f1.toList = [] from fun h => h cn), Bool.false_and]
      refine Ev.later fun k => ?_
      simp only [spec_DocOk.j3]
      rw [if_neg cbig, if_pos trivial, if_pos cu, if_pos cn]
    · rw [decide_eq_true cn, Bool.true_and]
      have hdeep : Ev (fun k => spec_l2Deep.f k L 0) 0 := by
        unfold spec_l2Deep.f
        refine Ev.later fun k => ?_
        simp only [spec_l2Deep.l0]
        rw [if_pos (by omega), if_pos (by omega), if_neg (by omega)]
      have hgu : goodI (rd_T39 L 0) = (qualB (rd_T39 L 0).f1 && (decide ((rd_T39 L 0).f2.toList = []) && attrsB (rd_T39 L 0).f3)) := by unfold goodI; rw [if_neg cn]
      refine Ev.step (f := fun k => spec_DocOk.j4 k L (limB (rd_T39 L 0) : Int) 0 (rd_T39 L 0).f0 (rd_T39 L 0).f1 (rd_T39 L 0).f2 (rd_T39 L 0).f3) (fun k => ?_) (Ev.step (f := fun k => spec_DocOk.j6 k L (limB (rd_T39 L 0) : Int) 0 (rd_T39 L 0).f0 (rd_T39 L 0).f1 (rd_T39 L 0).f2 (rd_T39 L 0).f3) (fun k => ?_) (Ev.step (f := fun k => (spec_l2Deep.f k L 0).bind fun t153 => (if t153 ≥ 20 then (some false) else (if (rd_T39 L 0).f1.toList = ([] : List UInt8) then (if (rd_T39 L 0).f2.toList = ([] : List UInt8) then (spec_DocOk.j7 k L (limB (rd_T39 L 0) : Int) 0 true (rd_T39 L 0).f0 (rd_T39 L 0).f1 (rd_T39 L 0).f2 (rd_T39 L 0).f3) else (if ((rd_T39 L 0).f3.length : Int) > 0 then (spec_DocOk.j7 k L (limB (rd_T39 L 0) : Int) 0 true (rd_T39 L 0).f0 (rd_T39 L 0).f1 (rd_T39 L 0).f2 (rd_T39 L 0).f3) else ((spec_l1Text.f k (rd_T39 L 0).f2).bind fun t154 => (spec_DocOk.j7 k L (limB (rd_T39 L 0) : Int) 0 (!t154) (rd_T39 L 0).f0 (rd_T39 L 0).f1 (rd_T39 L 0).f2 (rd_T39 L 0).f3)))) else (if (rd_T39 L 0).f2.toList = ([] : List UInt8) then ((spec_l1Qual.f k (rd_T39 L 0).f1).bind fun t157 => (if t157 = true then ((spec_l2Attrs.f k (rd_T39 L 0).f3).bind fun t158 => (if t158 = true then (spec_DocOk.l0 k L (limB (rd_T39 L 0) : Int) (wrap64 (0 + 1))) else (some false))) else (some false))) else (some false))))) (fun k => by simp only [spec_DocOk.j6]) (Ev.bind hdeep ?_)))
      · simp only [spec_DocOk.j3]
        rw [if_neg cbig, if_pos trivial, if_pos cu, if_neg cn]
      · simp only [spec_DocOk.j4]
        rw [if_neg (by omega)]
      · simp only [show ¬ ((0 : Int) ≥ 20) by omega, if_false, cn]
        rw [hgu]
        by_cases hw0 : (rd_T39 L 0).f2.toList = []
        · simp only [hw0, if_true, decide_true, Bool.true_and]
          refine Ev.bind (spec_l1Qual_ev (rd_T39 L 0).f1 (by have := hx0.1; omega)) ?_
          cases hqb : qualB (rd_T39 L 0).f1 with
          | false => simp only [Bool.false_eq_true, if_false, Bool.false_and]; exact Ev.now _
          | true =>
            simp only [if_true, Bool.true_and]
            refine Ev.bind (spec_Attrs_ev _ hx0.2.2) ?_
            cases hab : attrsB (rd_T39 L 0).f3 with
            | false => simp only [Bool.false_eq_true, if_false, Bool.false_and]; exact Ev.now _
            | true =>
              simp only [if_true, Bool.true_and]
              have hg : goodI (rd_T39 L 0) = true := by rw [hgu, hqb, hab, decide_eq_true hw0]; rfl
              have := spec_Doc_l0_ev L hL (L.length - 1) 1 [0] (limB (rd_T39 L 0) : Int) (by omega) (start_inv L h1 cu cn) (by simp) (by omega) (by omega)
              rw [lim_good _ hg] at this ⊢
              rw [w64 (x := 0 + 1) (by omega) (by omega)]
              exact this
        · simp only [hw0, if_false, decide_false, Bool.false_and, Bool.and_false]
          exact Ev.now _
  · rw [decide_eq_false cu, Bool.false_and, Bool.false_and]
    refine Ev.later fun k => ?_
    simp only [spec_DocOk.j3]
    rw [if_neg cbig, if_pos trivial, if_neg cu]
theorem impl_DocOk_ev (L : List S39) (hs : L.length ≤ 1048576) (hx : ∀ x ∈ L, smallI x) (hw : wIs L ≤ 1048576) : Ev (fun k => impl_DocOk.f k L) (docB L) := by
  unfold impl_DocOk.f docB
  have bad : Ev (fun k => impl_DocOk.j0 k L true) false := Ev.later fun k => by simp only [impl_DocOk.j0, if_true]
  simp only [impl_in_eq, Option.bind_some, inR]
  by_cases c : 1 ≤ (L.length : Int) ∧ (L.length : Int) ≤ 200
  · have cd := decide_eq_true c
    simp only [cd, if_true]
    have h1 : 1 ≤ L.length := by omega
    rw [decide_eq_true h1, decide_eq_true (show L.length ≤ 200 by omega), Bool.true_and, Bool.true_and]
    have q0 : (0 : Int) < (L.length : Int) := by omega
    simp only [q0, if_true]
    have hL : smallL L := ⟨by omega, hx, hw⟩
    have e : rd_T39 L ((0 : Nat) : Int) = L[0] := getII L 0 h1
    have hx0 : smallI (rd_T39 L 0) := by have := hx _ (List.getElem_mem h1); rw [← e] at this; exact this
    have q1 := wIs_drop L 0 h1
    have q2 := wIs_le L 0
    rw [← e] at q1
    have q1 : wIs (L.drop 0) = wI (rd_T39 L 0) + wIs (L.drop 1) := q1
    have hwx : wI (rd_T39 L 0) ≤ 1048576 := by omega
    have hw1 : wI (rd_T39 L 0) = (rd_T39 L 0).f1.size + (rd_T39 L 0).f2.size + (rd_T39 L 0).f3.length + wAs (rd_T39 L 0).f3 := rfl
    have hw2 : wB (rd_T39 L 0) = (rd_T39 L 0).f1.size + (rd_T39 L 0).f2.size + wAs (rd_T39 L 0).f3 := rfl
    by_cases cu : (rd_T39 L 0).f0 = -1
    · simp only [cu, if_true, decide_true, Bool.true_and]
      by_cases cn : (rd_T39 L 0).f1.toList = []
      · rw [decide_eq_false (show ¬ ¬ (rd_T39 L 0).f1.toList = [] from fun h => h cn), Bool.false_and, show ((rd_T39 L 0).f1.toList == ([] : List UInt8)) = true from beq_iff_eq.mpr cn]
        exact bad
      · rw [decide_eq_true cn, Bool.true_and, show ((rd_T39 L 0).f1.toList == ([] : List UInt8)) = false from beq_eq_false_iff_ne.mpr cn]
        refine Ev.step (f := fun k => impl_DocOk.l0 k L 0 [] L (L.length : Int) 0) (fun k => by simp only [impl_DocOk.j0, Bool.false_eq_true, if_false]) ?_
        refine Ev.step (f := fun k => (impl_Item_isGood.f k (rd_T39 L 0).f0 (rd_T39 L 0).f1 (rd_T39 L 0).f2 (rd_T39 L 0).f3).bind fun t233 => (if t233 = true then ((impl_Item_bytes.f k (rd_T39 L 0).f0 (rd_T39 L 0).f1 (rd_T39 L 0).f2 (rd_T39 L 0).f3).bind fun t234 => (impl_DocOk.l1 k L (wrap64 (0 + t234)) [] 0 L (L.length : Int) 0 (rd_T39 L 0).f0 (rd_T39 L 0).f1 (rd_T39 L 0).f2 (rd_T39 L 0).f3)) else (some false))) (fun k => ?_) (Ev.bind (impl_isGood_ev _ hx0) ?_)
        · simp only [impl_DocOk.l0]
          rw [if_pos q0, if_pos (by omega), if_pos q0]
        · cases hg : goodI (rd_T39 L 0) with
          | false => simp only [Bool.false_eq_true, if_false, Bool.false_and]; exact Ev.now _
          | true =>
            simp only [if_true, Bool.true_and]
            refine Ev.bind (impl_bytes_ev _ (by omega)) ?_
            rw [w64 (x := 0 + (wB (rd_T39 L 0) : Int)) (by omega) (by omega), Int.zero_add]
            have hk := impl_Doc_l0_ev L hL (L.length - 1) 1 [0] (wB (rd_T39 L 0) : Int) (by omega) (start_inv L h1 cu cn) (by simp) (by omega) (by omega)
            have es : stk L 1 [0] = [0] := by unfold stk; rw [if_neg (show ¬ (rd_T39 L ((1 - 1 : Nat) : Int)).f1.toList = [] from cn)]
            rw [es] at hk
            refine Ev.step (f := fun k => impl_DocOk.j3 k L (wB (rd_T39 L 0) : Int) [] 0 L (L.length : Int) 0 (rd_T39 L 0).f0 (rd_T39 L 0).f1 (rd_T39 L 0).f2 (rd_T39 L 0).f3) (fun k => ?_) (Ev.step (f := fun k => impl_DocOk.j4 k L (wB (rd_T39 L 0) : Int) [] 0 L (L.length : Int) 0 false (rd_T39 L 0).f0 (rd_T39 L 0).f1 (rd_T39 L 0).f2 (rd_T39 L 0).f3) (fun k => ?_) (Ev.step (fun k => ?_) hk))
            · simp only [impl_DocOk.l1]
              rw [if_neg (by simp)]
            · simp only [impl_DocOk.j3]
              rw [if_neg (by omega), decide_eq_false (by simp)]
            · simp only [impl_DocOk.j4, Bool.false_eq_true, if_false]
              rw [if_neg cn, if_pos (by simp), w64 (x := 0 + 1) (by omega) (by omega)]
              rfl
    · simp only [cu, if_false, decide_false, Bool.false_and]
      exact bad
  · have cd := decide_eq_false c
    simp only [cd, Bool.false_eq_true, if_false]
    have : (decide (1 ≤ L.length) && decide (L.length ≤ 200)) = false := by
      by_cases q : 1 ≤ L.length
      · rw [decide_eq_false (show ¬ L.length ≤ 200 by omega), Bool.and_false]
      · rw [decide_eq_false q, Bool.false_and]
    rw [this, Bool.false_and]
    exact bad
theorem wA_mem {l : List S52} {y : S52} (h : y ∈ l) : wA y ≤ wAs l := by
  induction l with
  | nil => cases h
  | cons a l ih =>
    rw [wAs_cons]
    rcases List.mem_cons.1 h with e | e
    · rw [e]; omega
    · have := ih e; omega
theorem wI_mem {l : List S39} {y : S39} (h : y ∈ l) : wI y ≤ wIs l := by
  induction l with
  | nil => cases h
  | cons a l ih =>
    rw [wIs_cons]
    rcases List.mem_cons.1 h with e | e
    · rw [e]; omega
    · have := ih e; omega
theorem small_of {l : List S39} (h : wIs l ≤ 1048576) : ∀ x ∈ l, smallI x := by
  intro x hx
  have h1 := wI_mem hx
  have hw1 : wI x = x.f1.size + x.f2.size + x.f3.length + wAs x.f3 := rfl
  refine ⟨by omega, by omega, by omega, fun y hy => ?_⟩
  have h2 := wA_mem hy
  have hw2 : wA y = y.f0.size + y.f1.size := rfl
  omega
end Go.Proofs.YtbhklkpjjpkblaaGreatDoor.PP
namespace Go.Proofs.YtbhklkpjjpkblaaGreatDoor.PP
open Go.RowKit Go.Proofs.YtbhklkpjjpkblaaGreatDoorW.PrintWords
set_option linter.unusedVariables false
set_option linter.unusedSimpArgs false
theorem bytes_ext {a b : ByteArray} (h : a.data.toList = b.data.toList) : a = b := by
  apply ByteArray.ext
  apply Array.ext'
  exact h
theorem append_list (a b : ByteArray) : (a ++ b).data.toList = a.data.toList ++ b.data.toList := by rw [ByteArray.data_append, Array.toList_append]
end Go.Proofs.YtbhklkpjjpkblaaGreatDoor.PP
namespace Go.Proofs.YtbhklkpjjpkblaaGreatDoor.PP
open Go.RowKit Go.Proofs.YtbhklkpjjpkblaaGreatDoorW.PrintWords Go.Proofs.YtbhklkpjjpkblaaGreatDoorW.PrintMore
set_option linter.unusedVariables false
set_option linter.unusedSimpArgs false
theorem docR_up (L : List S39) : ∀ d i C (s : Int), docR L d i C s = true → Inv L i C → i + d = L.length → ∀ j, i ≤ j → j < L.length → 0 ≤ (rd_T39 L (j : Int)).f0 ∧ (rd_T39 L (j : Int)).f0 < (j : Int)
  | 0, i, C, s, _, _, hi, j, h1, h2 => by omega
  | d + 1, i, C, s, h, hI, hi, j, h1, h2 => by
    rw [docR] at h
    simp only [Bool.and_eq_true] at h
    obtain ⟨_, hl, hr⟩ := h
    have hp : ¬ pop L i C = [] := by
      unfold linkB at hl
      simp only [Bool.and_eq_true, decide_eq_true_eq] at hl
      exact hl.1
    have hi2 : i < L.length := by omega
    by_cases e : j = i
    · subst e
      obtain ⟨a, T, eT⟩ := List.exists_cons_of_ne_nil hp
      have hh := drop_head _ _ a T (show (stk L j C).dropWhile (notUp L j) = a :: T from eT)
      have hu : (a : Int) = (rd_T39 L (j : Int)).f0 := by
        have := hh.1
        unfold notUp at this
        simpa using this
      have := hI.lt a (hI.stk_in a hh.2.1)
      omega
    · exact docR_up L d (i + 1) _ _ hr (hI.next hi2 hp) (by omega) j (by omega) h2
theorem docB_up (L : List S39) (h : docB L = true) : ∀ j, j < L.length → -1 ≤ (rd_T39 L (j : Int)).f0 ∧ (rd_T39 L (j : Int)).f0 < (j : Int) := by
  unfold docB at h
  simp only [Bool.and_eq_true, decide_eq_true_eq] at h
  obtain ⟨⟨h1, h2⟩, ⟨hu, hn⟩, hg, hr⟩ := h
  intro j hj
  by_cases e : j = 0
  · subst e
    have : (rd_T39 L ((0 : Nat) : Int)).f0 = -1 := hu
    omega
  · have := docR_up L _ 1 [0] _ hr (start_inv L h1 hu hn) (by omega) j (by omega) hj
    omega
theorem docB_length (L : List S39) (h : docB L = true) : L.length ≤ 200 := by
  unfold docB at h
  simp only [Bool.and_eq_true, decide_eq_true_eq] at h
  exact h.1.2
end Go.Proofs.YtbhklkpjjpkblaaGreatDoor.PP
namespace Go.Proofs.YtbhklkpjjpkblaaGreatDoor.PP
open Go.RowKit Go.Proofs.YtbhklkpjjpkblaaGreatDoorW.PrintWords Go.Proofs.YtbhklkpjjpkblaaGreatDoorW.PrintMore
set_option linter.unusedVariables false
set_option linter.unusedSimpArgs false
def kidsR (L : List S39) (n : Int) : Nat → Nat → List Int
  | 0, _ => []
  | d + 1, i => if (rd_T39 L (i : Int)).f0 = n then (i : Int) :: kidsR L n d (i + 1) else kidsR L n d (i + 1)
def bel (L : List S39) : Nat → Nat → List (List Int) → List (List Int)
  | 0, _, x => x
  | d + 1, i, x => if (rd_T39 L (i : Int)).f0 ≥ 0 then bel L d (i + 1) (x.set (rd_T39 L (i : Int)).f0.toNat (rd_L8 x (rd_T39 L (i : Int)).f0 ++ [(i : Int)])) else bel L d (i + 1) x
theorem bel_length (L : List S39) : ∀ d i x, (bel L d i x).length = x.length
  | 0, _, _ => rfl
  | d + 1, i, x => by
    rw [bel]
    split
    · rw [bel_length L d]; simp
    · rw [bel_length L d]
theorem rdL_set (x : List (List Int)) (a b : Nat) (v : List Int) (h : a < x.length) : rd_L8 (x.set a v) (b : Int) = if a = b then v else rd_L8 x (b : Int) := by
  unfold rd_L8
  simp only [List.getD_eq_getElem?_getD, Int.toNat_natCast]
  by_cases e : a = b
  · subst e
    rw [if_pos rfl, List.getElem?_set_self h]
    rfl
  · rw [if_neg e, List.getElem?_set_ne e]
theorem bel_rd (L : List S39) (hup : ∀ j, j < L.length → -1 ≤ (rd_T39 L (j : Int)).f0 ∧ (rd_T39 L (j : Int)).f0 < (j : Int)) (n : Nat) : ∀ d i x, i + d = L.length → x.length = L.length → rd_L8 (bel L d i x) (n : Int) = rd_L8 x (n : Int) ++ kidsR L (n : Int) d i := by
  intro d
  induction d with
  | zero => intro i x hi hx; rw [bel, kidsR, List.append_nil]
  | succ d ih =>
    intro i x hi hx
    have hu := hup i (by omega)
    rw [bel, kidsR]
    by_cases c : (rd_T39 L (i : Int)).f0 ≥ 0
    · rw [if_pos c, ih (i + 1) _ (by omega) (by simp [hx])]
      obtain ⟨u, hu2⟩ := Int.eq_ofNat_of_zero_le c
      rw [hu2, Int.toNat_natCast, rdL_set x u n _ (by omega)]
      by_cases e : u = n
      · rw [if_pos e, if_pos (by omega), e, List.append_assoc]
        rfl
      · rw [if_neg e, if_neg (by omega)]
    · rw [if_neg c, ih (i + 1) _ (by omega) hx, if_neg (by omega)]
theorem below_l0_ev (L : List S39) (hL : L.length ≤ 200) (hup : ∀ j, j < L.length → -1 ≤ (rd_T39 L (j : Int)).f0 ∧ (rd_T39 L (j : Int)).f0 < (j : Int)) : ∀ d i x, i + d = L.length → x.length = L.length → (∀ b : Nat, (rd_L8 x (b : Int)).length ≤ i) → Ev (fun k => impl_below.l0 k x L (L.length : Int) (i : Int)) (bel L d i x) := by
  intro d
  induction d with
  | zero =>
    intro i x hi hx hb
    refine Ev.later fun k => ?_
    simp only [impl_below.l0]
    rw [if_neg (cast_nlt (by omega)), bel]
  | succ d ih =>
    intro i x hi hx hb
    have hi2 : i < L.length := by omega
    have hu := hup i hi2
    rw [bel]
    by_cases c : (rd_T39 L (i : Int)).f0 ≥ 0
    · rw [if_pos c]
      obtain ⟨u, hu2⟩ := Int.eq_ofNat_of_zero_le c
      have hbu := hb u
      rw [hu2] at hu ⊢
      refine Ev.step (fun k => ?_) (ih (i + 1) (x.set (u : Int).toNat (rd_L8 x (u : Int) ++ [(i : Int)])) (by omega) (by simp [hx]) (fun b => ?_))
      · simp only [impl_below.l0]
        rw [if_pos (cast_lt hi2), if_pos (by omega), if_pos (cast_lt hi2), hu2, if_pos (by omega), if_pos (by omega), if_pos (by omega), if_pos (by omega), wrap_succ (n := L.length) (by omega) (cast_lt hi2) (by omega)]
        rfl
      · rw [Int.toNat_natCast, rdL_set x u b _ (by omega)]
        split
        · rw [List.length_append]; simp only [List.length_cons, List.length_nil]; omega
        · have := hb b; omega
    · rw [if_neg c]
      refine Ev.step (fun k => ?_) (ih (i + 1) x (by omega) hx (fun b => by have := hb b; omega))
      simp only [impl_below.l0]
      rw [if_pos (cast_lt hi2), if_pos (by omega), if_pos (cast_lt hi2), if_neg c, wrap_succ (n := L.length) (by omega) (cast_lt hi2) (by omega)]
      rfl
theorem below_ev (L : List S39) (hL : L.length ≤ 200) (hup : ∀ j, j < L.length → -1 ≤ (rd_T39 L (j : Int)).f0 ∧ (rd_T39 L (j : Int)).f0 < (j : Int)) : Ev (fun k => impl_below.f k L) (bel L L.length 0 (List.replicate L.length [])) := by
  unfold impl_below.f
  simp only [show ((0 : Int) ≤ (L.length : Int)) = True from eq_true (by omega), if_true, Int.toNat_natCast, show (L.length ≤ 11728124029610) = True from eq_true (by omega)]
  refine below_l0_ev L hL hup L.length 0 _ (by omega) (by simp) (fun b => ?_)
  unfold rd_L8
  simp only [List.getD_eq_getElem?_getD, Int.toNat_natCast, List.getElem?_replicate]
  split <;> simp
theorem kidsR_behind (L : List S39) (m : Nat) (hm : m < L.length) (hup : ∀ j, j < L.length → -1 ≤ (rd_T39 L (j : Int)).f0 ∧ (rd_T39 L (j : Int)).f0 < (j : Int)) : ∀ d i, i + d = L.length → i ≤ m + 1 → kidsR L (m : Int) d i = kidsR L (m : Int) (L.length - (m + 1)) (m + 1) := by
  intro d
  induction d with
  | zero => intro i hi hm2; rw [show L.length - (m + 1) = 0 by omega, kidsR, kidsR]
  | succ d ih =>
    intro i hi hm2
    by_cases e : i = m + 1
    · subst e
      rw [show L.length - (m + 1) = d + 1 by omega]
    · rw [kidsR, if_neg (by have := hup i (by omega); omega)]
      exact ih (i + 1) (by omega) (by omega)
theorem below_at (L : List S39) (hup : ∀ j, j < L.length → -1 ≤ (rd_T39 L (j : Int)).f0 ∧ (rd_T39 L (j : Int)).f0 < (j : Int)) (m : Nat) (hm : m < L.length) : rd_L8 (bel L L.length 0 (List.replicate L.length [])) (m : Int) = kidsR L (m : Int) (L.length - (m + 1)) (m + 1) := by
  rw [bel_rd L hup m L.length 0 _ (by omega) (by simp), kidsR_behind L m hm hup L.length 0 (by omega) (by omega)]
  have : rd_L8 (List.replicate L.length []) (m : Int) = [] := by
    unfold rd_L8
    simp only [List.getD_eq_getElem?_getD, Int.toNat_natCast, List.getElem?_replicate]
    split <;> rfl
  rw [this, List.nil_append]
end Go.Proofs.YtbhklkpjjpkblaaGreatDoor.PP
namespace Go.Proofs.YtbhklkpjjpkblaaGreatDoor.PP
open Go.RowKit Go.Proofs.YtbhklkpjjpkblaaGreatDoorW.PrintWords Go.Proofs.YtbhklkpjjpkblaaGreatDoorW.PrintMore
set_option linter.unusedVariables false
set_option linter.unusedSimpArgs false
def itN (up : Nat → Nat) : Nat → Nat → Nat
  | 0, b => b
  | t + 1, b => itN up t (up b)
def Anc (up : Nat → Nat) (a b : Nat) : Prop := ∃ t, itN up t b = a
theorem Anc.refl (up : Nat → Nat) (a : Nat) : Anc up a a := ⟨0, rfl⟩
theorem Anc.up {up : Nat → Nat} {a b : Nat} (h : Anc up a (up b)) : Anc up a b := by
  obtain ⟨t, h⟩ := h
  exact ⟨t + 1, h⟩
theorem Anc.inv {up : Nat → Nat} {a b : Nat} (h : Anc up a b) : a = b ∨ Anc up a (up b) := by
  obtain ⟨t, h⟩ := h
  cases t with
  | zero => exact .inl h.symm
  | succ t => exact .inr ⟨t, h⟩
structure Nest (up : Nat → Nat) (N : Nat) : Prop where
  zero : up 0 = 0
  lt : ∀ j, 0 < j → j < N → up j < j
  anc : ∀ j, 0 < j → j < N → Anc up (up j) (j - 1)
variable {up : Nat → Nat} {N : Nat}
theorem Nest.le (h : Nest up N) : ∀ b, b < N → ∀ a, Anc up a b → a ≤ b := by
  intro b
  induction b using Nat.strongRecOn with
  | ind b ih =>
    intro hb a ha
    by_cases e : b = 0
    · subst e
      obtain ⟨t, ht⟩ := ha
      have z : ∀ t, itN up t 0 = 0 := by
        intro t
        induction t with
        | zero => rfl
        | succ t iht => rw [itN, h.zero]; exact iht
      rw [z t] at ht
      omega
    · rcases ha.inv with e2 | h2
      · omega
      · have := h.lt b (by omega) hb
        have := ih (up b) this (by omega) a h2
        omega
theorem Nest.line (h : Nest up N) : ∀ b, b < N → ∀ a c, Anc up a b → Anc up c b → a < c → Anc up a (up c) := by
  intro b
  induction b using Nat.strongRecOn with
  | ind b ih =>
    intro hb a c ha hc hac
    have hcb := h.le b hb c hc
    rcases hc.inv with e | h2
    · subst e
      rcases ha.inv with e2 | h3
      · omega
      · exact h3
    · rcases ha.inv with e2 | h3
      · omega
      · by_cases e : b = 0
        · omega
        · have hl := h.lt b (by omega) hb
          exact ih (up b) hl (by omega) a c h3 h2 hac
def nxF (up : Nat → Nat) (n : Nat) : Nat → Nat → Nat
  | 0, j => j
  | d + 1, j => if up j < n then j else nxF up n d (j + 1)
def nx (up : Nat → Nat) (N n : Nat) : Nat := nxF up n (N - (n + 1)) (n + 1)
theorem nxF_spec (n : Nat) : ∀ d j, j + d = N → (∀ i, n < i → i < j → n ≤ up i) → n < j → j ≤ nxF up n d j ∧ nxF up n d j ≤ N ∧ (∀ i, n < i → i < nxF up n d j → n ≤ up i) ∧ (nxF up n d j < N → up (nxF up n d j) < n)
  | 0, j, hj, hi, _ => by
    rw [nxF]
    exact ⟨Nat.le_refl _, by omega, hi, fun h => by omega⟩
  | d + 1, j, hj, hi, hn => by
    rw [nxF]
    by_cases c : up j < n
    · rw [if_pos c]
      exact ⟨Nat.le_refl _, by omega, hi, fun _ => c⟩
    · rw [if_neg c]
      have ih := nxF_spec n d (j + 1) (by omega) (fun i h1 h2 => by
        by_cases e : i = j
        · subst e; omega
        · exact hi i h1 (by omega)) (by omega)
      exact ⟨by omega, ih.2.1, ih.2.2.1, ih.2.2.2⟩
theorem nx_spec (n : Nat) (hn : n < N) : n < nx up N n ∧ nx up N n ≤ N ∧ (∀ i, n < i → i < nx up N n → n ≤ up i) ∧ (nx up N n < N → up (nx up N n) < n) := by
  have h := nxF_spec (up := up) (N := N) n (N - (n + 1)) (n + 1) (by omega) (fun i h1 h2 => by omega) (by omega)
  unfold nx
  exact ⟨by omega, h.2⟩
theorem Nest.sub (h : Nest up N) (n : Nat) (hn : n < N) : ∀ j, n ≤ j → j < nx up N n → Anc up n j := by
  have hs := nx_spec (up := up) n hn
  intro j
  induction j using Nat.strongRecOn with
  | ind j ih =>
    intro h1 h2
    by_cases e : j = n
    · subst e; exact Anc.refl _ _
    · have h3 := hs.2.2.1 j (by omega) h2
      have h4 := h.lt j (by omega) (by omega)
      exact Anc.up (ih (up j) h4 h3 (by omega))
theorem Nest.sep (h : Nest up N) (n : Nat) (hn : n < N) : ∀ j, nx up N n ≤ j → j < N → ∀ a, Anc up a j → a < n ∨ nx up N n ≤ a := by
  have hs := nx_spec (up := up) n hn
  intro j
  induction j using Nat.strongRecOn with
  | ind j ih =>
    intro h1 h2 a ha
    have hlt := h.lt j (by omega) h2
    have low : up j < n → Anc up a (up j) → a < n ∨ nx up N n ≤ a := fun h3 h4 => by
      have := h.le (up j) (by omega) a h4
      exact .inl (by omega)
    rcases ha.inv with e | h3
    · subst e; exact .inr h1
    · by_cases e : j = nx up N n
      · exact low (by rw [e]; exact hs.2.2.2 (by omega)) h3
      · rcases ih (j - 1) (by omega) (by omega) (by omega) (up j) (h.anc j (by omega) h2) with h4 | h4
        · exact low h4 h3
        · exact ih (up j) hlt h4 (by omega) a h3
def Spot (up : Nat → Nat) (N n a : Nat) : Prop := n < a ∧ a ≤ N ∧ (∀ j, n < j → j < a → n ≤ up j) ∧ (a < N → up a ≤ n)
theorem Nest.first (h : Nest up N) (n : Nat) (hn : n < N) : Spot up N n (n + 1) := ⟨by omega, by omega, fun j h1 h2 => by omega, fun h2 => by have := h.lt (n + 1) (by omega) h2; omega⟩
theorem Nest.next (h : Nest up N) (n a : Nat) (hs : Spot up N n a) (ha : a < N) (hu : up a = n) : Spot up N n (nx up N a) := by
  have hx := nx_spec (up := up) a ha
  obtain ⟨h1, h2, h3, h4⟩ := hs
  refine ⟨by omega, hx.2.1, fun j hj1 hj2 => ?_, fun hb => ?_⟩
  · by_cases e : j < a
    · exact h3 j hj1 e
    · by_cases e2 : j = a
      · subst e2; omega
      · have := hx.2.2.1 j (by omega) hj2
        omega
  · have hub := hx.2.2.2 hb
    have hsub := h.sub a ha (nx up N a - 1) (by omega) (by omega)
    have hanc := h.anc (nx up N a) (by omega) hb
    have hl := h.line (nx up N a - 1) (by omega) _ a hanc hsub hub
    rw [hu] at hl
    exact h.le n (by omega) _ hl
theorem Nest.stop (h : Nest up N) (n a : Nat) (hs : Spot up N n a) (hn : n < N) (hu : a < N → up a ≠ n) : a = nx up N n ∧ ∀ j, a ≤ j → j < N → up j ≠ n := by
  have hx := nx_spec (up := up) n hn
  obtain ⟨h1, h2, h3, h4⟩ := hs
  have e : a = nx up N n := by
    rcases Nat.lt_trichotomy a (nx up N n) with hl | he | hl
    · have h5 := hx.2.2.1 a h1 hl
      have h6 := h4 (by omega)
      have h7 := hu (by omega)
      omega
    · exact he
    · have h5 := h3 (nx up N n) hx.1 hl
      have h6 := hx.2.2.2 (by omega)
      omega
  refine ⟨e, fun j hj1 hj2 => ?_⟩
  rcases h.sep n hn j (by omega) hj2 (up j) (Anc.up (Anc.refl _ _)) with h5 | h5
  · omega
  · have := hx.1
    omega
end Go.Proofs.YtbhklkpjjpkblaaGreatDoor.PP
namespace Go.Proofs.YtbhklkpjjpkblaaGreatDoor.PP
open Go.RowKit Go.Proofs.YtbhklkpjjpkblaaGreatDoorW.PrintWords Go.Proofs.YtbhklkpjjpkblaaGreatDoorW.PrintMore
set_option linter.unusedVariables false
set_option linter.unusedSimpArgs false
def upL (L : List S39) (j : Nat) : Nat := ((rd_T39 L (j : Int)).f0).toNat
theorem Ch_anc (L : List S39) : ∀ C, Ch L C → ∀ a, C.head? = some a → ∀ e ∈ C, Anc (upL L) e a
  | [], h, _, _, _, _ => h.elim
  | [j], _, a, ha, e, he => by
    rw [List.head?_cons] at ha
    injection ha with ha
    rw [List.mem_singleton] at he
    rw [he, ← ha]
    exact Anc.refl _ _
  | j :: e' :: C, h, a, ha, e, he => by
    rw [List.head?_cons] at ha
    injection ha with ha
    subst ha
    obtain ⟨_, h2, h3⟩ := h
    rcases List.mem_cons.1 he with e1 | e1
    · rw [e1]; exact Anc.refl _ _
    · have ih := Ch_anc L (e' :: C) h3 e' rfl e e1
      refine Anc.up ?_
      unfold upL
      rw [h2, Int.toNat_natCast]
      exact ih
theorem docR_anc (L : List S39) : ∀ d i C (s : Int), docR L d i C s = true → Inv L i C → i + d = L.length → ∀ j, i ≤ j → j < L.length → Anc (upL L) (upL L j) (j - 1)
  | 0, i, C, s, _, _, hi, j, h1, h2 => by omega
  | d + 1, i, C, s, h, hI, hi, j, h1, h2 => by
    rw [docR] at h
    simp only [Bool.and_eq_true] at h
    obtain ⟨_, hl, hr⟩ := h
    have hp : ¬ pop L i C = [] := by
      unfold linkB at hl
      simp only [Bool.and_eq_true, decide_eq_true_eq] at hl
      exact hl.1
    have hi2 : i < L.length := by omega
    by_cases e : j = i
    · subst e
      obtain ⟨a, T, eT⟩ := List.exists_cons_of_ne_nil hp
      have hh := drop_head _ _ a T (show (stk L j C).dropWhile (notUp L j) = a :: T from eT)
      have hu : (a : Int) = (rd_T39 L (j : Int)).f0 := by
        have := hh.1
        unfold notUp at this
        simpa using this
      have := Ch_anc L C hI.ch (j - 1) hI.hd a (hI.stk_in a hh.2.1)
      unfold upL
      rw [← hu, Int.toNat_natCast]
      exact this
    · exact docR_anc L d (i + 1) _ _ hr (hI.next hi2 hp) (by omega) j (by omega) h2
theorem nest_of (L : List S39) (h : docB L = true) : Nest (upL L) L.length := by
  have hup := docB_up L h
  unfold docB at h
  simp only [Bool.and_eq_true, decide_eq_true_eq] at h
  obtain ⟨⟨h1, h2⟩, ⟨hu, hn⟩, hg, hr⟩ := h
  refine ⟨?_, fun j hj hj2 => ?_, fun j hj hj2 => ?_⟩
  · unfold upL
    have hu : (rd_T39 L ((0 : Nat) : Int)).f0 = -1 := hu
    rw [hu]
    rfl
  · have := hup j hj2
    unfold upL
    omega
  · exact docR_anc L _ 1 [0] _ hr (start_inv L h1 hu hn) (by omega) j (by omega) hj2
theorem up_iff (L : List S39) (h : docB L = true) (j n : Nat) (hj : 0 < j) (hj2 : j < L.length) : (rd_T39 L (j : Int)).f0 = (n : Int) ↔ upL L j = n := by
  have h1 : 0 ≤ (rd_T39 L (j : Int)).f0 := by
    unfold docB at h
    simp only [Bool.and_eq_true, decide_eq_true_eq] at h
    obtain ⟨⟨h1, h2⟩, ⟨hu, hn⟩, hg, hr⟩ := h
    exact (docR_up L _ 1 [0] _ hr (start_inv L h1 hu hn) (by omega) j (by omega) hj2).1
  unfold upL
  omega
theorem kidsR_skip (L : List S39) (n : Int) : ∀ t i, i + t ≤ L.length → (∀ j, i ≤ j → j < i + t → ¬ (rd_T39 L (j : Int)).f0 = n) → kidsR L n (L.length - i) i = kidsR L n (L.length - (i + t)) (i + t)
  | 0, i, _, _ => rfl
  | t + 1, i, h, hn => by
    rw [show L.length - i = (L.length - (i + 1)) + 1 by omega, kidsR, if_neg (hn i (Nat.le_refl _) (by omega)), kidsR_skip L n t (i + 1) (by omega) (fun j h1 h2 => hn j (by omega) (by omega)), show i + 1 + t = i + (t + 1) by omega]
theorem kidsR_none (L : List S39) (n : Int) (i : Nat) (hi : i ≤ L.length) (hn : ∀ j, i ≤ j → j < L.length → ¬ (rd_T39 L (j : Int)).f0 = n) : kidsR L n (L.length - i) i = [] := by
  rw [kidsR_skip L n (L.length - i) i (by omega) (fun j h1 h2 => hn j h1 (by omega)), show L.length - (i + (L.length - i)) = 0 by omega, kidsR]
end Go.Proofs.YtbhklkpjjpkblaaGreatDoor.PP
namespace Go.Proofs.YtbhklkpjjpkblaaGreatDoor.PP
open Go.RowKit Go.Proofs.YtbhklkpjjpkblaaGreatDoorW.PrintWords Go.Proofs.YtbhklkpjjpkblaaGreatDoorW.PrintMore
set_option linter.unusedVariables false
set_option linter.unusedSimpArgs false
theorem bt_at (s : ByteArray) (i : Nat) (h : i < s.data.toList.length) : bt s (i : Int) = (s.data.toList[i].toNat : Int) := by
  rw [← rd_bytesOf]
  unfold rd bytesOf
  have h' : i < s.data.size := by simpa using h
  simp [List.getD_eq_getElem?_getD, Array.getElem?_eq_getElem h']
theorem one_at (s : ByteArray) (i : Nat) (h : i < s.data.toList.length) : s.extract i (i + 1) = (⟨#[s.data.toList[i]]⟩ : ByteArray) := by
  apply bytes_ext
  rw [Lib.extract_data, show i + 1 - i = 1 by omega, List.drop_eq_getElem_cons h]
  rfl
abbrev escB (attr : Bool) (b : UInt8) : ByteArray := impl_Escape.sign attr b
def escL (attr : Bool) (l : List UInt8) : List UInt8 := l.flatMap fun b => (escB attr b).data.toList
theorem escL_cons (attr : Bool) (b : UInt8) (l : List UInt8) : escL attr (b :: l) = (escB attr b).data.toList ++ escL attr l := by
  unfold escL
  rw [List.flatMap_cons]
theorem escB_size (attr : Bool) (b : UInt8) : (escB attr b).size ≤ 6 := by
  unfold escB impl_Escape.sign
  repeat' split
  all_goals (first | (show 5 ≤ 6; omega) | (show 4 ≤ 6; omega) | (show 6 ≤ 6; omega) | (show 1 ≤ 6; omega))
theorem spec_Esc_l0_ev (s : ByteArray) (hs : s.size ≤ 1048576) (attr : Bool) : ∀ (d n : Nat) (acc : ByteArray), n + d = s.size → acc.size ≤ 6 * n → Ev (fun k => spec_l2Escape.l0 k s attr acc (n : Int)) (⟨(acc.data.toList ++ escL attr (s.data.toList.drop n)).toArray⟩ : ByteArray)
  | 0, n, acc, hn, ha => by
    have hd : s.data.toList.drop n = [] := List.drop_eq_nil_of_le (by rw [data_length]; omega)
    rw [hd, show escL attr [] = [] from rfl, List.append_nil]
    refine Ev.later fun k => ?_
    simp only [spec_l2Escape.l0]
    rw [if_neg (cast_nlt (by omega))]
  | d + 1, n, acc, hn, ha => by
    have h2 : n < s.data.toList.length := by rw [data_length]; omega
    have hb := bt_at s n h2
    have he6 := escB_size attr s.data.toList[n]
    have ih := spec_Esc_l0_ev s hs attr d (n + 1) (acc ++ escB attr s.data.toList[n]) (by omega) (by rw [ByteArray.size_append]; omega)
    have hone := one_at s n h2
    rw [append_list, List.append_assoc, ← escL_cons, ← List.drop_eq_getElem_cons h2] at ih
    have w1 : wrap64 ((n : Int) + 1) = ((n + 1 : Nat) : Int) := by rw [wrap_succ (n := s.size) (by omega) (cast_lt (by omega)) (by omega)]; rfl
    have q1 : (n : Int) < (s.size : Int) := by omega
    have q2 : (0 : Int) ≤ (n : Int) := by omega
    generalize s.data.toList[n] = b at *
    generalize hR : (⟨(acc.data.toList ++ escL attr (s.data.toList.drop n)).toArray⟩ : ByteArray) = R at *
    clear hR
    by_cases c1 : (b.toNat : Int) = 38
    · have he : escB attr b = ⟨#[38, 97, 109, 112, 59]⟩ := by unfold escB impl_Escape.sign; rw [if_pos c1]
      rw [he] at ih
      refine Ev.step (fun k => ?_) ih
      simp only [spec_l2Escape.l0, hb]
      rw [if_pos q1, if_pos q2, if_pos c1, if_pos (by omega), w1]
    by_cases c2 : (b.toNat : Int) = 60
    · have he : escB attr b = ⟨#[38, 108, 116, 59]⟩ := by unfold escB impl_Escape.sign; rw [if_neg c1, if_pos c2]
      rw [he] at ih
      refine Ev.step (fun k => ?_) ih
      simp only [spec_l2Escape.l0, hb]
      rw [if_pos q1, if_pos q2, if_neg c1, if_pos c2, if_pos (by omega), w1]
    by_cases c3 : (b.toNat : Int) = 62
    · have he : escB attr b = ⟨#[38, 103, 116, 59]⟩ := by unfold escB impl_Escape.sign; rw [if_neg c1, if_neg c2, if_pos c3]
      rw [he] at ih
      refine Ev.step (fun k => ?_) ih
      simp only [spec_l2Escape.l0, hb]
      rw [if_pos q1, if_pos q2, if_neg c1, if_neg c2, if_pos c3, if_pos (by omega), w1]
    by_cases c4 : (b.toNat : Int) = 13
    · have he : escB attr b = ⟨#[38, 35, 49, 51, 59]⟩ := by unfold escB impl_Escape.sign; rw [if_neg c1, if_neg c2, if_neg c3, if_pos c4]
      rw [he] at ih
      refine Ev.step (fun k => ?_) ih
      simp only [spec_l2Escape.l0, hb]
      rw [if_pos q1, if_pos q2, if_neg c1, if_neg c2, if_neg c3, if_pos c4, if_pos (by omega), w1]
    refine Ev.step (f := fun k => spec_l2Escape.j1 k s attr acc (n : Int) (b.toNat : Int) (attr && ((b.toNat : Int) == 34))) (fun k => ?_) ?_
    · simp only [spec_l2Escape.l0, hb]
      rw [if_pos q1, if_pos q2, if_neg c1, if_neg c2, if_neg c3, if_neg c4]
      cases attr <;> rfl
    by_cases c5 : attr = true ∧ (b.toNat : Int) = 34
    · have he : escB attr b = ⟨#[38, 113, 117, 111, 116, 59]⟩ := by unfold escB impl_Escape.sign; rw [if_neg c1, if_neg c2, if_neg c3, if_neg c4, if_pos c5]
      rw [he] at ih
      refine Ev.step (fun k => ?_) ih
      simp only [spec_l2Escape.j1]
      rw [if_pos (by rw [c5.1, c5.2]; rfl), if_pos (by omega), w1]
    refine Ev.step (f := fun k => spec_l2Escape.j2 k s attr acc (n : Int) (b.toNat : Int) (attr && ((b.toNat : Int) == 9))) (fun k => ?_) ?_
    · simp only [spec_l2Escape.j1]
      rw [if_neg (by rw [Bool.and_eq_true, beq_iff_eq]; exact c5)]
      cases attr <;> rfl
    by_cases c6 : attr = true ∧ (b.toNat : Int) = 9
    · have he : escB attr b = ⟨#[38, 35, 57, 59]⟩ := by unfold escB impl_Escape.sign; rw [if_neg c1, if_neg c2, if_neg c3, if_neg c4, if_neg c5, if_pos c6]
      rw [he] at ih
      refine Ev.step (fun k => ?_) ih
      simp only [spec_l2Escape.j2]
      rw [if_pos (by rw [c6.1, c6.2]; rfl), if_pos (by omega), w1]
    by_cases c7 : attr = true ∧ (b.toNat : Int) = 10
    · have he : escB attr b = ⟨#[38, 35, 49, 48, 59]⟩ := by unfold escB impl_Escape.sign; rw [if_neg c1, if_neg c2, if_neg c3, if_neg c4, if_neg c5, if_neg c6, if_pos c7]
      rw [he] at ih
      refine Ev.step (fun k => ?_) ih
      simp only [spec_l2Escape.j2]
      rw [if_neg (by rw [Bool.and_eq_true, beq_iff_eq]; exact c6), if_pos c7.1, if_pos c7.2, if_pos (by omega), w1]
    have he : escB attr b = ⟨#[b]⟩ := by unfold escB impl_Escape.sign; rw [if_neg c1, if_neg c2, if_neg c3, if_neg c4, if_neg c5, if_neg c6, if_neg c7]
    rw [he] at ih
    refine Ev.step (fun k => ?_) ih
    have hsz : (⟨#[b]⟩ : ByteArray).size = 1 := rfl
    simp only [spec_l2Escape.j2, w1, Int.toNat_natCast, hone, hsz]
    rw [if_neg (by rw [Bool.and_eq_true, beq_iff_eq]; exact c6)]
    cases attr with
    | false => rw [if_neg (by decide), if_pos q2, if_pos (show (n : Int) ≤ ((n + 1 : Nat) : Int) by omega), if_pos (show ((n + 1 : Nat) : Int) ≤ (s.size : Int) by omega), if_pos (by omega)]
    | true => rw [if_pos rfl, if_neg (fun h => c7 ⟨rfl, h⟩), if_pos q2, if_pos (show (n : Int) ≤ ((n + 1 : Nat) : Int) by omega), if_pos (show ((n + 1 : Nat) : Int) ≤ (s.size : Int) by omega), if_pos (by omega)]
theorem escS_eq (attr : Bool) (s : ByteArray) : impl_Escape.out attr s = ⟨(escL attr s.data.toList).toArray⟩ := rfl
theorem spec_l2Escape_ev (s : ByteArray) (hs : s.size ≤ 1048576) (attr : Bool) : Ev (fun k => spec_l2Escape.f k s attr) (impl_Escape.out attr s) := by
  rw [escS_eq]
  unfold spec_l2Escape.f
  have := spec_Esc_l0_ev s hs attr s.size 0 (⟨#[]⟩ : ByteArray) (by omega) (by show 0 ≤ 0; omega)
  rw [List.drop_zero] at this
  exact this
end Go.Proofs.YtbhklkpjjpkblaaGreatDoor.PP
namespace Go.Proofs.YtbhklkpjjpkblaaGreatDoor.PP
open Go.RowKit Go.Proofs.YtbhklkpjjpkblaaGreatDoorW.PrintWords Go.Proofs.YtbhklkpjjpkblaaGreatDoorW.PrintMore
set_option linter.unusedVariables false
set_option linter.unusedSimpArgs false
abbrev itm (L : List S39) (n : Nat) : S39 := rd_T39 L (n : Int)
def atB (y : S52) : List UInt8 := 32 :: (y.f0.data.toList ++ 61 :: 34 :: (escL true y.f1.data.toList ++ [34]))
def atsB (l : List S52) : List UInt8 := l.flatMap atB
def kidsAt (L : List S39) (n : Nat) : List Int := kidsR L (n : Int) (L.length - (n + 1)) (n + 1)
def txt (L : List S39) : Nat → Nat → List UInt8
  | 0, _ => []
  | f + 1, n => if (itm L n).f1.toList = [] then escL false (itm L n).f2.data.toList
    else (60 :: ((itm L n).f1.data.toList ++ atsB (itm L n).f3)) ++ (if kidsAt L n = [] then [47, 62] else 62 :: ((kidsAt L n).flatMap (fun k => txt L f k.toNat) ++ 60 :: 47 :: ((itm L n).f1.data.toList ++ [62])))
def mkb (l : List UInt8) : ByteArray := ⟨l.toArray⟩
theorem mkb_data (l : List UInt8) : (mkb l).data.toList = l := rfl
theorem mkb_size (l : List UInt8) : (mkb l).size = l.length := by
  show l.toArray.size = _
  rw [List.size_toArray]
theorem escL_len (attr : Bool) : ∀ l : List UInt8, (escL attr l).length ≤ 6 * l.length
  | [] => by simp [escL]
  | b :: l => by
    have ih := escL_len attr l
    have h6 := escB_size attr b
    rw [escL_cons, List.length_append, List.length_cons, data_length]
    omega
theorem atB_len (y : S52) : (atB y).length ≤ y.f0.size + 6 * y.f1.size + 5 := by
  have h := escL_len true y.f1.data.toList
  rw [data_length] at h
  unfold atB
  simp only [List.length_cons, List.length_append, List.length_nil, data_length]
  omega
theorem atsB_cons (y : S52) (l : List S52) : atsB (y :: l) = atB y ++ atsB l := by unfold atsB; rw [List.flatMap_cons]
theorem atsB_len : ∀ l : List S52, (atsB l).length ≤ 6 * wAs l + 5 * l.length
  | [] => by simp [atsB]
  | y :: l => by
    have ih := atsB_len l
    have h := atB_len y
    rw [atsB_cons, List.length_append, wAs_cons, List.length_cons]
    unfold wA
    omega
theorem docR_le (L : List S39) (d i : Nat) (C : List Nat) (s : Int) (h : docR L d i C s = true) : s ≤ 2500 := by
  rcases Int.lt_or_le 2500 s with c | c
  · rw [docR_big L d i C s c] at h
    cases h
  · exact c
theorem docR_item (L : List S39) : ∀ d i C (s : Int), docR L d i C s = true → 0 ≤ s → ∀ j, i ≤ j → j < i + d → goodI (itm L j) = true ∧ wB (itm L j) ≤ 2500
  | 0, i, C, s, _, _, j, h1, h2 => by omega
  | d + 1, i, C, s, h, hs, j, h1, h2 => by
    rw [docR] at h
    simp only [Bool.and_eq_true] at h
    obtain ⟨hg, _, hr⟩ := h
    have hle := docR_le L _ _ _ _ hr
    by_cases e : j = i
    · subst e
      exact ⟨hg, by show wB (rd_T39 L (j : Int)) ≤ 2500; omega⟩
    · exact docR_item L d (i + 1) _ _ hr (by omega) j (by omega) (by omega)
theorem docB_item (L : List S39) (h : docB L = true) (j : Nat) (hj : j < L.length) : goodI (itm L j) = true ∧ wB (itm L j) ≤ 2500 := by
  unfold docB at h
  simp only [Bool.and_eq_true, decide_eq_true_eq] at h
  obtain ⟨⟨h1, h2⟩, ⟨hu, hn⟩, hg, hr⟩ := h
  by_cases e : j = 0
  · subst e
    have := docR_le L _ _ _ _ hr
    exact ⟨hg, by show wB (rd_T39 L 0) ≤ 2500; omega⟩
  · exact docR_item L _ 1 [0] _ hr (by omega) j (by omega) (by omega)
theorem docR_el (L : List S39) : ∀ d i C (s : Int), docR L d i C s = true → Inv L i C → i + d = L.length → ∀ j, i ≤ j → j < L.length → ¬ (itm L (upL L j)).f1.toList = []
  | 0, i, C, s, _, _, hi, j, h1, h2 => by omega
  | d + 1, i, C, s, h, hI, hi, j, h1, h2 => by
    rw [docR] at h
    simp only [Bool.and_eq_true] at h
    obtain ⟨_, hl, hr⟩ := h
    have hp : ¬ pop L i C = [] := by
      unfold linkB at hl
      simp only [Bool.and_eq_true, decide_eq_true_eq] at hl
      exact hl.1
    have hi2 : i < L.length := by omega
    by_cases e : j = i
    · subst e
      obtain ⟨a, T, eT⟩ := List.exists_cons_of_ne_nil hp
      have hh := drop_head _ _ a T (show (stk L j C).dropWhile (notUp L j) = a :: T from eT)
      have hu : (a : Int) = (rd_T39 L (j : Int)).f0 := by
        have := hh.1
        unfold notUp at this
        simpa using this
      have := hI.stk_el a hh.2.1
      unfold upL
      rw [← hu, Int.toNat_natCast]
      exact this
    · exact docR_el L d (i + 1) _ _ hr (hI.next hi2 hp) (by omega) j (by omega) h2
theorem docB_el (L : List S39) (h : docB L = true) (j : Nat) (h0 : 0 < j) (hj : j < L.length) : ¬ (itm L (upL L j)).f1.toList = [] := by
  unfold docB at h
  simp only [Bool.and_eq_true, decide_eq_true_eq] at h
  obtain ⟨⟨h1, h2⟩, ⟨hu, hn⟩, hg, hr⟩ := h
  exact docR_el L _ 1 [0] _ hr (start_inv L h1 hu hn) (by omega) j (by omega) hj
theorem item_text (x : S39) (h : goodI x = true) (hn : x.f1.toList = []) : textB x.f2 = true := by
  unfold goodI at h
  rw [if_pos hn] at h
  simp only [Bool.and_eq_true] at h
  exact h.2.1
theorem attrs_text (l : List S52) : ∀ d n, attrsR l d n = true → ∀ m, n ≤ m → m < n + d → textB (rd_T52 l (m : Int)).f1 = true
  | 0, n, _, m, h1, h2 => by omega
  | d + 1, n, h, m, h1, h2 => by
    rw [attrsR] at h
    simp only [Bool.and_eq_true] at h
    by_cases e : m = n
    · subst e; exact h.1.2
    · exact attrs_text l d (n + 1) h.2.2 m (by omega) (by omega)
theorem item_attrs (x : S39) (h : goodI x = true) (hn : ¬ x.f1.toList = []) : x.f3.length ≤ 10 ∧ ∀ m, m < x.f3.length → textB (rd_T52 x.f3 (m : Int)).f1 = true := by
  unfold goodI at h
  rw [if_neg hn] at h
  simp only [Bool.and_eq_true] at h
  have h3 := h.2.2
  unfold attrsB at h3
  simp only [Bool.and_eq_true, decide_eq_true_eq] at h3
  exact ⟨h3.1, fun m hm => attrs_text x.f3 _ 0 h3.2 m (by omega) (by omega)⟩
theorem drop_attr (l : List S52) (j : Nat) (h : j < l.length) : l.drop j = rd_T52 l (j : Int) :: l.drop (j + 1) := by
  rw [List.drop_eq_getElem_cons h]
  congr 1
  unfold rd_T52
  simp [List.getD_eq_getElem?_getD, List.getElem?_eq_getElem h]
theorem attr_small (l : List S52) (j : Nat) (h : j < l.length) : (rd_T52 l (j : Int)).f0.size + (rd_T52 l (j : Int)).f1.size ≤ wAs l := by
  have hm : rd_T52 l (j : Int) ∈ l := by
    have := List.drop_subset j l
    rw [drop_attr l j h] at this
    exact this List.mem_cons_self
  have := wA_mem hm
  unfold wA at this
  exact this
theorem app2 (a : List UInt8) (b : ByteArray) : mkb a ++ b = mkb (a ++ b.data.toList) := by
  apply bytes_ext
  rw [append_list]
  rfl
theorem attr_cat (s : List UInt8) (y : S52) : ((((mkb s ++ (⟨#[32]⟩ : ByteArray)) ++ y.f0) ++ (⟨#[61, 34]⟩ : ByteArray)) ++ impl_Escape.out true y.f1) ++ (⟨#[34]⟩ : ByteArray) = mkb (s ++ atB y) := by
  rw [app2, app2, app2, app2, app2, escS_eq]
  unfold atB
  congr 1
  show ((((s ++ [32]) ++ y.f0.data.toList) ++ [61, 34]) ++ escL true y.f1.data.toList) ++ [34] = _
  simp
theorem out_size (attr : Bool) (s : ByteArray) : (impl_Escape.out attr s).size ≤ 6 * s.size := by
  have := escL_len attr s.data.toList
  rw [data_length] at this
  rw [escS_eq]
  show (escL attr s.data.toList).toArray.size ≤ _
  rw [List.size_toArray]
  exact this
theorem print_l0 (L : List S39) (n : Nat) (hn : n < L.length) (hL : L.length ≤ 200) (u : Int) (nm tx : ByteArray) (z : List S52) (hz : wAs z ≤ 2500) (hz2 : z.length ≤ 10) (R : ByteArray × Int) : ∀ d j (s : List UInt8), j + d = z.length → s.length + 30000 * d ≤ 1000000 →
    Ev (fun k => spec_l2Print.l1 k L (n : Int) (mkb (s ++ atsB (z.drop j))) ((n + 1 : Nat) : Int) (⟨#[]⟩ : ByteArray) u nm tx z) R → Ev (fun k => spec_l2Print.l0 k L (n : Int) (mkb s) (j : Int) u nm tx z) R
  | 0, j, s, hj, hs, hR => by
    rw [List.drop_eq_nil_of_le (by omega)] at hR
    have e : s ++ atsB [] = s := by unfold atsB; simp
    rw [e] at hR
    refine Ev.step (fun k => ?_) hR
    simp only [spec_l2Print.l0]
    rw [if_neg (by omega), w64 (by omega) (by omega)]
    rfl
  | d + 1, j, s, hj, hs, hR => by
    have hjl : j < z.length := by omega
    have hsm := attr_small z j hjl
    rw [drop_attr z j hjl, atsB_cons, ← List.append_assoc] at hR
    generalize hy : rd_T52 z (j : Int) = y at *
    have hab := atB_len y
    have ih := print_l0 L n hn hL u nm tx z hz hz2 R d (j + 1) (s ++ atB y) (by omega) (by rw [List.length_append]; omega) hR
    have hes := spec_l2Escape_ev y.f1 (by omega) true
    have hos := out_size true y.f1
    have hms := mkb_size s
    refine Ev.step (f := fun k => (spec_l2Escape.f k y.f1 true).bind fun t => (if (mkb s).size + 1 + y.f0.size + 2 + t.size ≤ 9223372036854775807 then (if (mkb s).size + 1 + y.f0.size + 2 + t.size + 1 ≤ 9223372036854775807 then (spec_l2Print.l0 k L (n : Int) (((((mkb s ++ (⟨#[32]⟩ : ByteArray)) ++ y.f0) ++ (⟨#[61, 34]⟩ : ByteArray)) ++ t) ++ (⟨#[34]⟩ : ByteArray)) ((j + 1 : Nat) : Int) u nm tx z) else none) else none)) (fun k => ?_) ?_
    · simp only [spec_l2Print.l0]
      rw [hy, if_pos (by omega), if_pos (by omega), if_pos (by omega), if_pos (by omega), if_pos (by omega), w64 (x := (j : Int) + 1) (by omega) (by omega)]
      rfl
    · refine Ev.bind hes ?_
      have q1 := eq_true (show (mkb s).size + 1 + y.f0.size + 2 + (impl_Escape.out true y.f1).size ≤ 9223372036854775807 by omega)
      have q2 := eq_true (show (mkb s).size + 1 + y.f0.size + 2 + (impl_Escape.out true y.f1).size + 1 ≤ 9223372036854775807 by omega)
      simp only [q1, q2, if_true, attr_cat]
      exact ih
def kidsT (L : List S39) (f n a : Nat) : List UInt8 := (kidsR L (n : Int) (L.length - a) a).flatMap fun k => txt L f k.toNat
theorem kidsT_step (L : List S39) (h : docB L = true) (f n a : Nat) (hn : n < L.length) (hs : Spot (upL L) L.length n a) (ha : a < L.length) (hu : upL L a = n) : kidsT L f n a = txt L f a ++ kidsT L f n (nx (upL L) L.length a) := by
  have hx := nx_spec (up := upL L) a ha
  have hpos : 0 < a := by have := hs.1; omega
  have e1 : kidsR L (n : Int) (L.length - a) a = (a : Int) :: kidsR L (n : Int) (L.length - (a + 1)) (a + 1) := by
    rw [show L.length - a = (L.length - (a + 1)) + 1 by omega, kidsR, if_pos ((up_iff L h a n hpos ha).2 hu)]
  have e2 := kidsR_skip L (n : Int) (nx (upL L) L.length a - (a + 1)) (a + 1) (by omega) (fun j h1 h2 e => by
    have h3 := (up_iff L h j n (by omega) (by omega)).1 e
    have h4 := hx.2.2.1 j (by omega) (by omega)
    have := hs.1
    omega)
  rw [show a + 1 + (nx (upL L) L.length a - (a + 1)) = nx (upL L) L.length a by omega] at e2
  unfold kidsT
  rw [e1, e2, List.flatMap_cons, Int.toNat_natCast]
theorem kidsT_stop (L : List S39) (h : docB L = true) (n a : Nat) (hn : n < L.length) (hs : Spot (upL L) L.length n a) (hu : a < L.length → upL L a ≠ n) : a = nx (upL L) L.length n ∧ kidsR L (n : Int) (L.length - a) a = [] := by
  obtain ⟨e, hj⟩ := (nest_of L h).stop n a hs hn hu
  refine ⟨e, kidsR_none L (n : Int) a hs.2.1 (fun j h1 h2 e2 => ?_)⟩
  have := hs.1
  exact hj j h1 h2 ((up_iff L h j n (by omega) h2).1 e2)
def endT (L : List S39) (n : Nat) (B nm : List UInt8) : List UInt8 := if kidsAt L n = [] then [47, 62] else 62 :: (B ++ 60 :: 47 :: (nm ++ [62]))
theorem wide_cat (s body : List UInt8) (nm : ByteArray) : ((((mkb s ++ (⟨#[62]⟩ : ByteArray)) ++ mkb body) ++ (⟨#[60, 47]⟩ : ByteArray)) ++ nm) ++ (⟨#[62]⟩ : ByteArray) = mkb (s ++ 62 :: (body ++ 60 :: 47 :: (nm.data.toList ++ [62]))) := by
  rw [app2, app2, app2, app2, app2]
  congr 1
  show ((((s ++ [62]) ++ body) ++ [60, 47]) ++ nm.data.toList) ++ [62] = _
  simp
theorem print_l1 (L : List S39) (h : docB L = true) (f n : Nat) (hn : n < L.length) (IH : ∀ m, n < m → m < L.length → Ev (fun k => spec_l2Print.f k L (m : Int)) (mkb (txt L f m), ((nx (upL L) L.length m : Nat) : Int)) ∧ (txt L f m).length ≤ 30000 * (nx (upL L) L.length m - m))
    (u : Int) (nm tx : ByteArray) (z : List S52) (s : List UInt8) (hs : s.length ≤ 1000000) (hnm : nm.size ≤ 2500) : ∀ t a (body : List UInt8), L.length - a ≤ t → Spot (upL L) L.length n a → (a ≠ n + 1 → kidsAt L n ≠ []) → body.length ≤ 30000 * a →
    Ev (fun k => spec_l2Print.l1 k L (n : Int) (mkb s) (a : Int) (mkb body) u nm tx z) (mkb (s ++ endT L n (body ++ kidsT L f n a) nm.data.toList), ((nx (upL L) L.length n : Nat) : Int)) ∧ (kidsT L f n a).length ≤ 30000 * (nx (upL L) L.length n - a) := by
  have hL := docB_length L h
  have hms := mkb_size s
  intro t
  induction t with
  | zero =>
    intro a body ht hsp hne hb
    have hae : ¬ a < L.length := by omega
    have hbs := mkb_size body
    have ha2 := hsp.2.1
    obtain ⟨e, hk⟩ := kidsT_stop L h n a hn hsp (fun hh => absurd hh hae)
    have hkt : kidsT L f n a = [] := by unfold kidsT; rw [hk]; rfl
    rw [hkt, List.append_nil]
    refine ⟨?_, by simp⟩
    refine Ev.later fun k => ?_
    simp only [spec_l2Print.l1]
    rw [if_neg (by omega), w64 (x := (n : Int) + 1) (by omega) (by omega)]
    unfold endT
    by_cases e1 : a = n + 1
    · have hk0 : kidsAt L n = [] := by unfold kidsAt; rw [← e1]; exact hk
      rw [if_pos (by omega), if_pos (by omega), if_pos hk0, app2, ← e]
    · rw [if_neg (by omega), if_pos (by omega), if_pos (by omega), if_pos (by omega), if_pos (by omega), if_pos (by omega), if_neg (hne e1), wide_cat, ← e]
  | succ t ih =>
    intro a body ht hsp hne hb
    have hbs := mkb_size body
    have ha2 := hsp.2.1
    by_cases hae : a < L.length
    · by_cases hu : upL L a = n
      · have hpos : 0 < a := by have := hsp.1; omega
        have hx := nx_spec (up := upL L) a hae
        obtain ⟨h1, h2⟩ := IH a hsp.1 hae
        have hkn : kidsAt L n ≠ [] := by
          by_cases e1 : a = n + 1
          · unfold kidsAt
            rw [← e1, show L.length - a = (L.length - (a + 1)) + 1 by omega, kidsR, if_pos ((up_iff L h a n hpos hae).2 hu)]
            simp
          · exact hne e1
        have hnext := ih (nx (upL L) L.length a) (body ++ txt L f a) (by omega) ((nest_of L h).next n a hsp hae hu) (fun _ => hkn) (by rw [List.length_append]; omega)
        rw [kidsT_step L h f n a hn hsp hae hu, ← List.append_assoc]
        refine ⟨?_, ?_⟩
        · refine Ev.step (f := fun k => (spec_l2Print.f k L (a : Int)).bind fun bt => (if (mkb body).size + bt.1.size ≤ 9223372036854775807 then (spec_l2Print.l1 k L (n : Int) (mkb s) bt.2 (mkb body ++ bt.1) u nm tx z) else none)) (fun k => ?_) ?_
          · simp only [spec_l2Print.l1]
            rw [if_pos (by omega), if_pos (by omega), if_pos ((up_iff L h a n hpos hae).2 hu)]
          · refine Ev.bind h1 ?_
            have := mkb_size (txt L f a)
            refine Ev.congr (f := fun k => spec_l2Print.l1 k L (n : Int) (mkb s) ((nx (upL L) L.length a : Nat) : Int) (mkb body ++ mkb (txt L f a)) u nm tx z) (fun k => if_pos (by show (mkb body).size + (mkb (txt L f a)).size ≤ _; omega)) ?_
            rw [app2, mkb_data]
            exact hnext.1
        · rw [List.length_append]
          have h5 := hnext.2
          have h6 := ((nest_of L h).next n a hsp hae hu)
          have h7 : nx (upL L) L.length a ≤ nx (upL L) L.length n := by
            rcases Nat.lt_or_ge (nx (upL L) L.length n) (nx (upL L) L.length a) with hc | hc
            · have hxn := nx_spec (up := upL L) n hn
              have h8 := h6.2.2.1 (nx (upL L) L.length n) hxn.1 hc
              have h9 := hxn.2.2.2 (by omega)
              omega
            · exact hc
          omega
      · obtain ⟨e, hk⟩ := kidsT_stop L h n a hn hsp (fun _ => hu)
        have hkt : kidsT L f n a = [] := by unfold kidsT; rw [hk]; rfl
        rw [hkt, List.append_nil]
        refine ⟨?_, by simp⟩
        refine Ev.later fun k => ?_
        simp only [spec_l2Print.l1]
        have hpos : 0 < a := by have := hsp.1; omega
        rw [if_pos (by omega), if_pos (by omega), if_neg (fun hh => hu ((up_iff L h a n hpos hae).1 hh)), w64 (x := (n : Int) + 1) (by omega) (by omega)]
        unfold endT
        by_cases e1 : a = n + 1
        · have hk0 : kidsAt L n = [] := by unfold kidsAt; rw [← e1]; exact hk
          rw [if_pos (by omega), if_pos (by omega), if_pos hk0, app2, ← e]
        · rw [if_neg (by omega), if_pos (by omega), if_pos (by omega), if_pos (by omega), if_pos (by omega), if_pos (by omega), if_neg (hne e1), wide_cat, ← e]
    · obtain ⟨e, hk⟩ := kidsT_stop L h n a hn hsp (fun hh => absurd hh hae)
      have hkt : kidsT L f n a = [] := by unfold kidsT; rw [hk]; rfl
      rw [hkt, List.append_nil]
      refine ⟨?_, by simp⟩
      refine Ev.later fun k => ?_
      simp only [spec_l2Print.l1]
      rw [if_neg (by omega), w64 (x := (n : Int) + 1) (by omega) (by omega)]
      unfold endT
      by_cases e1 : a = n + 1
      · have hk0 : kidsAt L n = [] := by unfold kidsAt; rw [← e1]; exact hk
        rw [if_pos (by omega), if_pos (by omega), if_pos hk0, app2, ← e]
      · rw [if_neg (by omega), if_pos (by omega), if_pos (by omega), if_pos (by omega), if_pos (by omega), if_pos (by omega), if_neg (hne e1), wide_cat, ← e]
theorem print_ev (L : List S39) (h : docB L = true) : ∀ f n, L.length - n ≤ f → n < L.length → Ev (fun k => spec_l2Print.f k L (n : Int)) (mkb (txt L f n), ((nx (upL L) L.length n : Nat) : Int)) ∧ (txt L f n).length ≤ 30000 * (nx (upL L) L.length n - n) := by
  have hL := docB_length L h
  intro f
  induction f with
  | zero => intro n h1 h2; omega
  | succ f ih =>
    intro n hf hn
    obtain ⟨hg, hw⟩ := docB_item L h n hn
    have hx := nx_spec (up := upL L) n hn
    have hwb : (itm L n).f1.size + (itm L n).f2.size + wAs (itm L n).f3 ≤ 2500 := hw
    rw [txt]
    by_cases hm : (itm L n).f1.toList = []
    · rw [if_pos hm]
      have hstop := (nest_of L h).stop n (n + 1) ((nest_of L h).first n hn) hn (fun hl e => by
        have := docB_el L h (n + 1) (by omega) hl
        rw [e] at this
        exact this hm)
      have hlen := escL_len false (itm L n).f2.data.toList
      rw [data_length] at hlen
      refine ⟨?_, by omega⟩
      refine Ev.step (f := fun k => (spec_l2Escape.f k (itm L n).f2 false).bind fun t => some (t, ((n + 1 : Nat) : Int))) (fun k => ?_) ?_
      · simp only [spec_l2Print.f]
        rw [if_pos (by omega), if_pos (by omega), if_pos hm, w64 (x := (n : Int) + 1) (by omega) (by omega)]
        rfl
      · refine Ev.bind (spec_l2Escape_ev _ (by omega) false) ?_
        rw [← hstop.1]
        exact Ev.now _
    · rw [if_neg hm]
      obtain ⟨ha1, _⟩ := item_attrs _ hg hm
      have hal := atsB_len (itm L n).f3
      have hsl : (60 :: ((itm L n).f1.data.toList ++ atsB (itm L n).f3)).length ≤ 1 + 2500 + 6 * 2500 + 50 := by
        rw [List.length_cons, List.length_append, data_length]
        omega
      have hl1 := print_l1 L h f n hn (fun m h1 h2 => ih m (by omega) h2) (itm L n).f0 (itm L n).f1 (itm L n).f2 (itm L n).f3 (60 :: ((itm L n).f1.data.toList ++ atsB (itm L n).f3)) (by omega) (by omega) (L.length - (n + 1)) (n + 1) [] (Nat.le_refl _) ((nest_of L h).first n hn) (fun hh => absurd rfl hh) (by simp)
      rw [List.nil_append] at hl1
      refine ⟨?_, ?_⟩
      · have hl0 := print_l0 L n hn hL (itm L n).f0 (itm L n).f1 (itm L n).f2 (itm L n).f3 (by omega) ha1 _ (itm L n).f3.length 0 (60 :: (itm L n).f1.data.toList) (by omega) (by rw [List.length_cons, data_length]; omega) (by
          rw [List.drop_zero, List.cons_append]
          exact hl1.1)
        refine Ev.step (fun k => ?_) hl0
        simp only [spec_l2Print.f]
        have e : (⟨#[60]⟩ : ByteArray) ++ (itm L n).f1 = mkb (60 :: (itm L n).f1.data.toList) := by
          apply bytes_ext
          rw [append_list]
          rfl
        rw [if_pos (by omega), if_pos (by omega), if_neg hm, if_pos (by show 1 + (itm L n).f1.size ≤ _; omega), e]
        rfl
      · have h3 := hl1.2
        rw [List.length_append]
        have : (if kidsAt L n = [] then [47, 62] else 62 :: ((kidsAt L n).flatMap (fun k => txt L f k.toNat) ++ 60 :: 47 :: ((itm L n).f1.data.toList ++ [62]))).length ≤ (kidsT L f n (n + 1)).length + 2510 := by
          split
          · show 2 ≤ _; omega
          · rw [List.length_cons, List.length_append, List.length_cons, List.length_cons, List.length_append, data_length]
            show (kidsT L f n (n + 1)).length + _ + 1 ≤ _
            simp only [List.length_cons, List.length_nil]
            omega
        omega
end Go.Proofs.YtbhklkpjjpkblaaGreatDoor.PP
namespace Go.Proofs.YtbhklkpjjpkblaaGreatDoor.PP
open Go.RowKit Go.Proofs.YtbhklkpjjpkblaaGreatDoorW.PrintWords Go.Proofs.YtbhklkpjjpkblaaGreatDoorW.PrintMore
set_option linter.unusedVariables false
set_option linter.unusedSimpArgs false
theorem esc_impl (s : ByteArray) (attr : Bool) (hs : s.size ≤ 2500) (ht : textB s = true) : Ev (fun k => impl_Escape.f k s attr) (impl_Escape.out attr s, true) := by
  unfold impl_Escape.f
  have c : ¬ (s.size : Int) > 2500 := by omega
  simp only [c, if_false]
  have h := impl_isPlain_ev s
  rw [ht] at h
  refine Ev.bind h ?_
  simp only [if_true]
  exact Ev.now _
theorem ats_ev : ∀ l : List S52, (∀ y ∈ l, y.f1.size ≤ 2500 ∧ textB y.f1 = true) → Ev (fun k => impl_printItem.ats k l) (atsB l)
  | [], _ => Ev.const fun _ => rfl
  | y :: l, h => by
    obtain ⟨h1, h2⟩ := h y List.mem_cons_self
    have ih := ats_ev l (fun x hx => h x (List.mem_cons_of_mem _ hx))
    rw [atsB_cons]
    have hg : (fun k => impl_printItem.ats k (y :: l)) = fun k => (impl_Escape.f k y.f1 true).bind fun p => (impl_printItem.ats k l).bind fun q => some ((32 :: (y.f0.data.toList ++ 61 :: 34 :: (p.1.data.toList ++ [34]))) ++ q) := rfl
    rw [hg]
    exact Ev.bind (esc_impl y.f1 true h1 h2) (Ev.bind ih (Ev.now _))
theorem all_ev (g : Nat → Int → Option (List UInt8)) (T : Int → List UInt8) : ∀ ks : List Int, (∀ m ∈ ks, Ev (fun k => g k m) (T m)) → Ev (fun k => impl_printItem.all (g k) ks) (ks.flatMap T)
  | [], _ => Ev.const fun _ => rfl
  | m :: ks, h => by
    have h1 := h m List.mem_cons_self
    have ih := all_ev g T ks (fun x hx => h x (List.mem_cons_of_mem _ hx))
    rw [List.flatMap_cons]
    have hg : (fun k => impl_printItem.all (g k) (m :: ks)) = fun k => (g k m).bind fun a => (impl_printItem.all (g k) ks).bind fun b => some (a ++ b) := rfl
    rw [hg]
    exact Ev.bind h1 (Ev.bind ih (Ev.now _))
theorem kidsR_mem (L : List S39) (n : Int) : ∀ d i, ∀ m ∈ kidsR L n d i, ∃ j : Nat, m = (j : Int) ∧ i ≤ j ∧ j < i + d
  | 0, _, m, h => by simp [kidsR] at h
  | d + 1, i, m, h => by
    rw [kidsR] at h
    have step : m ∈ kidsR L n d (i + 1) → ∃ j : Nat, m = (j : Int) ∧ i ≤ j ∧ j < i + (d + 1) := fun h2 => by
      obtain ⟨j, h3, h4, h5⟩ := kidsR_mem L n d (i + 1) m h2
      exact ⟨j, h3, by omega, by omega⟩
    split at h
    · rcases List.mem_cons.1 h with e | h2
      · exact ⟨i, e, Nat.le_refl _, by omega⟩
      · exact step h2
    · exact step h
theorem attr_mem (l : List S52) (y : S52) (h : y ∈ l) : ∃ m, m < l.length ∧ rd_T52 l (m : Int) = y := by
  obtain ⟨m, hm⟩ := List.mem_iff_getElem?.1 h
  have hl := (List.getElem?_eq_some_iff.1 hm).1
  refine ⟨m, hl, ?_⟩
  unfold rd_T52
  rw [Int.toNat_natCast, List.getD_eq_getElem?_getD, hm]
  rfl
theorem print_impl (L : List S39) (h : docB L = true) (kids : List (List Int)) (hkl : kids.length = L.length) (hkr : ∀ m, m < L.length → rd_L8 kids (m : Int) = kidsAt L m) : ∀ f n, L.length - n ≤ f → n < L.length → Ev (fun k => impl_printItem.f k L kids (n : Int)) (txt L f n) := by
  intro f
  induction f with
  | zero => intro n h1 h2; omega
  | succ f ih =>
    intro n hf hn
    obtain ⟨hg, hw⟩ := docB_item L h n hn
    have hwb : (itm L n).f1.size + (itm L n).f2.size + wAs (itm L n).f3 ≤ 2500 := hw
    have hcond : 0 ≤ (n : Int) ∧ (n : Int) < (L.length : Int) ∧ (n : Int) < (kids.length : Int) := ⟨by omega, by omega, by omega⟩
    rw [txt]
    by_cases hm : (itm L n).f1.toList = []
    · rw [if_pos hm]
      refine Ev.step (f := fun k => (impl_Escape.f k (itm L n).f2 false).bind fun p => some p.1.data.toList) (fun k => ?_) ?_
      · simp only [impl_printItem.f]
        rw [if_pos hcond, if_pos hm]
      · exact Ev.bind (esc_impl _ false (by omega) (item_text _ hg hm)) (Ev.now _)
    · rw [if_neg hm]
      obtain ⟨ha1, ha2⟩ := item_attrs _ hg hm
      have hats := ats_ev (itm L n).f3 (fun y hy => by
        obtain ⟨m, h1, h2⟩ := attr_mem _ y hy
        have h3 := attr_small _ m h1
        have h4 := ha2 m h1
        rw [h2] at h3 h4
        exact ⟨by omega, h4⟩)
      by_cases hk0 : kidsAt L n = []
      · rw [if_pos hk0]
        refine Ev.step (f := fun k => (impl_printItem.ats k (itm L n).f3).bind fun A => some (impl_printItem.shut (itm L n).f1.data.toList A)) (fun k => ?_) ?_
        · simp only [impl_printItem.f]
          rw [if_pos hcond, if_neg hm]
          congr 1
          funext A
          rw [hkr n hn, if_pos hk0]
        · refine Ev.bind hats ?_
          have e : (60 :: ((itm L n).f1.data.toList ++ atsB (itm L n).f3)) ++ [47, 62] = impl_printItem.shut (itm L n).f1.data.toList (atsB (itm L n).f3) := by
            unfold impl_printItem.shut
            simp
          rw [e]
          exact Ev.now _
      · rw [if_neg hk0]
        have hall := all_ev (fun k m => impl_printItem.f k L kids m) (fun m => txt L f m.toNat) (kidsAt L n) (fun m hm => by
          obtain ⟨j, rfl, h1, h2⟩ := kidsR_mem L (n : Int) _ _ m hm
          rw [Int.toNat_natCast]
          exact ih j (by omega) (by omega))
        refine Ev.step (f := fun k => (impl_printItem.ats k (itm L n).f3).bind fun A => (impl_printItem.all (fun m => impl_printItem.f k L kids m) (kidsAt L n)).bind fun B => some (impl_printItem.wide (itm L n).f1.data.toList A B)) (fun k => ?_) ?_
        · simp only [impl_printItem.f]
          rw [if_pos hcond, if_neg hm]
          congr 1
          funext A
          rw [hkr n hn, if_neg hk0]
        · refine Ev.bind hats (Ev.bind hall ?_)
          have e : (60 :: ((itm L n).f1.data.toList ++ atsB (itm L n).f3)) ++ (62 :: ((kidsAt L n).flatMap (fun k => txt L f k.toNat) ++ 60 :: 47 :: ((itm L n).f1.data.toList ++ [62]))) = impl_printItem.wide (itm L n).f1.data.toList (atsB (itm L n).f3) ((kidsAt L n).flatMap fun k => txt L f k.toNat) := by
            unfold impl_printItem.wide
            simp
          rw [e]
          exact Ev.now _
theorem doc_both (L : List S39) (hs : L.length ≤ 1048576) (hx : ∀ x ∈ L, smallI x) (hw : wIs L ≤ 1048576) : ∃ r, Ev (fun k => spec_PrintDoc.f k L) r ∧ Ev (fun k => impl_PrintDoc.f k L) r := by
  have hd1 := spec_DocOk_ev L hs hx hw
  have hd2 := impl_DocOk_ev L hs hx hw
  unfold spec_PrintDoc.f impl_PrintDoc.f
  cases hdb : docB L with
  | false =>
    rw [hdb] at hd1 hd2
    refine ⟨((⟨#[]⟩ : ByteArray), false), Ev.bind hd1 ?_, Ev.bind hd2 ?_⟩
    · simp only [Bool.false_eq_true, if_false]; exact Ev.now _
    · simp only [Bool.false_eq_true, if_false]; exact Ev.now _
  | true =>
    rw [hdb] at hd1 hd2
    have hlen := docB_length L hdb
    have hup := docB_up L hdb
    have hpos : 0 < L.length := by
      unfold docB at hdb
      simp only [Bool.and_eq_true, decide_eq_true_eq] at hdb
      omega
    obtain ⟨h1, h2⟩ := print_ev L hdb L.length 0 (by omega) hpos
    have h3 := print_impl L hdb (bel L L.length 0 (List.replicate L.length [])) (by rw [bel_length, List.length_replicate]) (fun m hm => below_at L hup m hm) L.length 0 (by omega) hpos
    have hx0 := nx_spec (up := upL L) (N := L.length) 0 hpos
    have hle : (txt L L.length 0).length ≤ 100000000 := by omega
    refine ⟨(mkb (txt L L.length 0), true), Ev.bind hd1 ?_, Ev.bind hd2 ?_⟩
    · simp only [if_true]
      exact Ev.bind h1 (Ev.now _)
    · simp only [if_true]
      refine Ev.bind (below_ev L hlen hup) (Ev.bind h3 ?_)
      rw [if_pos hle]
      exact Ev.now _
end Go.Proofs.YtbhklkpjjpkblaaGreatDoor.PP
namespace Go.Proofs.YtbhklkpjjpkblaaGreatDoor.Pure
open Go.RowKit Go.Proofs.YtbhklkpjjpkblaaGreatDoor.PP Go.Proofs.YtbhklkpjjpkblaaGreatDoorW.PrintWords Go.Proofs.YtbhklkpjjpkblaaGreatDoorW.PrintLast
set_option linter.unusedVariables false
set_option linter.unusedSimpArgs false
theorem FnExactPrintDoc : laws_FnExactPrintDoc.Pure := by
  intro l hl hw
  refine Ev.rounds (r := true) ?_
  unfold laws_FnExactPrintDoc.f
  have hok : ∀ y ∈ l, okI y := fun y hy => okI_of (hw y hy)
  obtain ⟨t, ht, hs⟩ := szItemS_ev l (by omega) hok
  refine Ev.bind ht ?_
  by_cases c : t < 0
  · simp only [c, if_true]
    exact Ev.now _
  simp only [c, if_false]
  have hsum := hs (by omega)
  have hsm := small_of (l := l.map cvI) (by omega)
  have ha : ∀ y ∈ l, y.f3.length ≤ 1048576 := fun y hy => by
    have := (hsm (cvI y) (List.mem_map_of_mem hy)).2.2.1
    unfold cvI at this
    simpa using this
  have hto := toItemS_ev l (by omega) ha
  have hlm : (l.map cvI).length ≤ 1048576 := by rw [List.length_map]; omega
  obtain ⟨r, h1, h2⟩ := doc_both (l.map cvI) hlm hsm (by omega)
  refine Ev.bind hto (Ev.bind h1 (Ev.bind hto (Ev.bind h2 ?_)))
  simp only [if_true, bne_self_eq_false]
  refine Ev.step (f := ?fa) (fun k => ?a) ?b
  case a => simp only [laws_FnExactPrintDoc.j0, Bool.false_eq_true, if_false]; rfl
  case b =>
    refine Ev.bind hto (Ev.bind (eqItemS_self _ hlm (fun y hy => (hsm y hy).2.2.1)) ?_)
    simp only [if_true]
    exact Ev.now _
end Go.Proofs.YtbhklkpjjpkblaaGreatDoor.Pure
