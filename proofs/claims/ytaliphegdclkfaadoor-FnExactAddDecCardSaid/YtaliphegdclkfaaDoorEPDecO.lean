/- Decimal numbers: rows of noughts, and how great a right number is. -/
import Derived.Test.YtaliphegdclkfaaDoorPEx6
import Derived.Test.YtaliphegdclkfaaDoorEPBase
import Derived.Test.YtaliphegdclkfaaDoorEPIn
import Derived.Test.YtaliphegdclkfaaDoorEPBytes
import Derived.Test.YtaliphegdclkfaaDoorEPDec
namespace Go.Proofs.YtaliphegdclkfaaDoor.PE
open Go.RowKit Go.Proofs.YtaliphegdclkfaaDoorW.PrintWords Go.Proofs.YtaliphegdclkfaaDoorW.PrintMore
set_option linter.unusedVariables false
set_option linter.unusedSimpArgs false
def zeros (n : Nat) : ByteArray := ⟨(List.replicate n 48).toArray⟩
theorem zeros_list (n : Nat) : (zeros n).data.toList = List.replicate n 48 := by unfold zeros; rw [List.toList_toArray]
theorem zeros_size (n : Nat) : (zeros n).size = n := by
  rw [← data_length, zeros_list, List.length_replicate]
theorem zeros_next (n : Nat) (s : ByteArray) : zeros n ++ ((⟨#[48]⟩ : ByteArray) ++ s) = zeros (n + 1) ++ s := by
  apply bytes_ext
  rw [append_list, append_list, append_list, zeros_list, zeros_list]
  show List.replicate n (48 : UInt8) ++ (48 :: s.data.toList) = List.replicate (n + 1) 48 ++ s.data.toList
  rw [List.replicate_succ', List.append_assoc]
  rfl
theorem zeros_nil (s : ByteArray) : zeros 0 ++ s = s := by
  apply bytes_ext
  rw [append_list, zeros_list]
  rfl
theorem repeatL_one : ∀ n : Nat, Lib.repeatL [48] n = List.replicate n (48 : UInt8) := by
  intro n
  induction n with
  | zero => rfl
  | succ n ih =>
    rw [Lib.repeatL, ih, List.replicate_succ]
    rfl
theorem strings_Repeat_zeros (n : Int) (h0 : 0 ≤ n) (h1 : n ≤ 1000000) : strings_Repeat.f (⟨#[48]⟩ : ByteArray) n = some (zeros n.toNat) := by
  unfold strings_Repeat.f
  have e : (⟨#[48]⟩ : ByteArray).size = 1 := rfl
  rw [if_pos ⟨h0, by omega, by rw [e]; omega⟩]
  congr 1
  show (⟨(Lib.repeatL [48] n.toNat).toArray⟩ : ByteArray) = zeros n.toNat
  rw [repeatL_one]
  rfl
theorem decOkF_range {neg : Bool} {s : ByteArray} {sc : Int} (h : decOkF neg s sc = true) : s.size ≤ 60 ∧ 0 ≤ sc ∧ sc ≤ 60 := by
  unfold decOkF at h
  by_cases h0 : s.size = 0
  · rw [if_pos h0] at h
    simp at h
    omega
  · rw [if_neg h0] at h
    simp only [Bool.and_eq_true, decide_eq_true_eq, inR_true] at h
    omega
end Go.Proofs.YtaliphegdclkfaaDoor.PE
