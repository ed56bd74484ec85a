import Derived.Test.YtomfhenoblfckaaPSx0
namespace Go.Proofs.Ytomfhenoblfckaa.PS
open Go.RowKit Go.Proofs.YtomfhenoblfckaaW.PrintWords
set_option linter.unusedVariables false
set_option linter.unusedSimpArgs false
/- Small words on numbers, rounds and bytes. -/
theorem w64 {x : Int} (h : -9223372036854775808 ≤ x) (h2 : x ≤ 9223372036854775807) : wrap64 x = x := by
  unfold wrap64
  omega
theorem Ev.const {α : Type} {g : Nat → Option α} {r : α} (h : ∀ k, g k = some r) : Ev g r := ⟨0, fun k _ => h k⟩
theorem Ev.later {α : Type} {g : Nat → Option α} {r : α} (h : ∀ k, g (k + 1) = some r) : Ev g r := by
  refine ⟨1, fun k hk => ?_⟩
  obtain ⟨m, rfl⟩ : ∃ m, k = m + 1 := ⟨k - 1, by omega⟩
  exact h m
def inR (a l h : Int) : Bool := decide (l ≤ a ∧ a ≤ h)
theorem inR_true {a l h : Int} : inR a l h = true ↔ l ≤ a ∧ a ≤ h := by simp [inR]
theorem wrap_succ {i : Int} {n : Nat} (h0 : 0 ≤ i) (h : i < (n : Int)) (hn : n ≤ 140737488355328) : wrap64 (i + 1) = i + 1 := w64 (by omega) (by omega)
theorem bytes_drop (s : ByteArray) (n : Nat) (h : n < s.size) : (bytesOf s).drop n = bt s (n : Int) :: (bytesOf s).drop (n + 1) := by
  have hl : n < (bytesOf s).length := by rw [bytesOf_length]; exact h
  rw [List.drop_eq_getElem_cons hl]
  congr 1
  have := rd_bytesOf s (n : Int)
  unfold rd at this
  rw [← this]
  simp [List.getD_eq_getElem?_getD, hl]
theorem bytes_drop_end (s : ByteArray) (n : Nat) (h : s.size ≤ n) : (bytesOf s).drop n = [] := List.drop_eq_nil_of_le (by rw [bytesOf_length]; exact h)
theorem cast_lt {a b : Nat} (h : a < b) : (a : Int) < (b : Int) := by omega
theorem cast_nlt {a b : Nat} (h : b ≤ a) : ¬ (a : Int) < (b : Int) := by omega
end Go.Proofs.Ytomfhenoblfckaa.PS
