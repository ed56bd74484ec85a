import Derived.Test.YtaliphegdclkfaaPLx0
namespace Go.Proofs.Ytaliphegdclkfaa.PL
open Go.RowKit Go.Proofs.YtaliphegdclkfaaW.PrintWords
set_option linter.unusedVariables false
set_option linter.unusedSimpArgs false
/- Small words on numbers, rounds and bytes. -/
theorem w64 {x : Int} (h : -9223372036854775808 ≤ x) (h2 : x ≤ 9223372036854775807) : wrap64 x = x := by
  unfold wrap64
  omega
theorem Ev.const {α : Type} {g : Nat → Option α} {r : α} (h : ∀ k, g k = some r) : Ev g r := ⟨0, fun k _ => h k⟩
theorem Ev.later {α : Type} {g : Nat → Option α} {r : α} (h : ∀ k, g (k + 1) = some r) : Ev g r := by
  refine ⟨1, fun k hk => ?_⟩
  obtain ⟨m, rfl⟩ : ∃ m, k = m + 1 := ⟨k - 1, by omega⟩
  exact h m
def inR (a l h : Int) : Bool := decide (l ≤ a ∧ a ≤ h)
theorem inR_true {a l h : Int} : inR a l h = true ↔ l ≤ a ∧ a ≤ h := by simp [inR]
theorem wrap_succ {i : Int} {n : Nat} (h0 : 0 ≤ i) (h : i < (n : Int)) (hn : n ≤ 140737488355328) : wrap64 (i + 1) = i + 1 := w64 (by omega) (by omega)
theorem bytes_drop (s : ByteArray) (n : Nat) (h : n < s.size) : (bytesOf s).drop n = bt s (n : Int) :: (bytesOf s).drop (n + 1) := by
  have hl : n < (bytesOf s).length := by rw [bytesOf_length]; exact h
  rw [List.drop_eq_getElem_cons hl]
  congr 1
  have := rd_bytesOf s (n : Int)
  unfold rd at this
  rw [← this]
  simp [List.getD_eq_getElem?_getD, hl]
theorem bytes_drop_end (s : ByteArray) (n : Nat) (h : s.size ≤ n) : (bytesOf s).drop n = [] := List.drop_eq_nil_of_le (by rw [bytesOf_length]; exact h)
theorem cast_lt {a b : Nat} (h : a < b) : (a : Int) < (b : Int) := by omega
theorem cast_nlt {a b : Nat} (h : b ≤ a) : ¬ (a : Int) < (b : Int) := by omega
theorem toList_eq' (s : ByteArray) : s.toList = s.data.toList := ByteArray.toList_eq s
theorem bytes_inj {s t : ByteArray} (h : s.toList = t.toList) : s = t := by
  rw [toList_eq', toList_eq'] at h
  apply ByteArray.ext
  apply Array.ext'
  exact h
theorem bytes_of_nums (l : List Int) (h : ∀ x ∈ l, 0 ≤ x ∧ x < 256) : bytesOf (strOfNums l) = l := by
  unfold bytesOf
  rw [strOfNums_data, List.map_map]
  conv => rhs; rw [← List.map_id l]
  apply List.map_congr_left
  intro x hx
  have := h x hx
  simp only [Function.comp, id, UInt8.toNat_ofNat']
  omega
theorem list_drop (l : List Int) (n : Nat) (h : n < l.length) : l.drop n = rd l (n : Int) :: l.drop (n + 1) := by
  rw [List.drop_eq_getElem_cons h]
  congr 1
  unfold rd
  simp [List.getD_eq_getElem?_getD, h]
theorem rd_mem (l : List Int) (n : Nat) (h : n < l.length) : rd l (n : Int) ∈ l := by
  unfold rd
  simp only [Int.toNat_natCast, List.getD_eq_getElem?_getD, List.getElem?_eq_getElem h, Option.getD_some]
  exact List.getElem_mem h
theorem set_next {α : Type} (l r : List α) (n : Nat) (v d : α) (hn : n = l.length) (hr : 0 < r.length) : (l ++ r).set n v = (l ++ [v]) ++ r.tail := by
  subst hn
  cases r with
  | nil => simp at hr
  | cons a r => simp
theorem wf_i64 {x : Int} (h : (Lit.int .i64 x).wf = true) : -9223372036854775808 ≤ x ∧ x ≤ 9223372036854775807 := by
  simp [Lit.wf, IntKind.min, IntKind.max, IntKind.signed, IntKind.bits] at h
  omega
theorem wf_u8 {x : Int} (h : (Lit.int .u8 x).wf = true) : 0 ≤ x ∧ x ≤ 255 := by
  simp [Lit.wf, IntKind.min, IntKind.max, IntKind.signed, IntKind.bits] at h
  omega
end Go.Proofs.Ytaliphegdclkfaa.PL
