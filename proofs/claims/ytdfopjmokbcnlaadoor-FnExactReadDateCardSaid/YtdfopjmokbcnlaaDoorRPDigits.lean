/- Digits: what both tests come to. -/
import Derived.Test.YtdfopjmokbcnlaaDoorPRx1
import Derived.Test.YtdfopjmokbcnlaaDoorPRx3
import Derived.Test.YtdfopjmokbcnlaaDoorRPBase
import Derived.Test.YtdfopjmokbcnlaaDoorRPIn
namespace Go.Proofs.YtdfopjmokbcnlaaDoor.PR
open Go.RowKit Go.Proofs.YtdfopjmokbcnlaaDoorW.PrintWords Go.Proofs.YtdfopjmokbcnlaaDoorW.PrintMore
set_option linter.unusedVariables false
set_option linter.unusedSimpArgs false
def digB (x : Int) : Bool := decide (48 ≤ x ∧ x ≤ 57)
def allD (s : ByteArray) : Bool := (bytesOf s).all digB
theorem spec_l1Digit_eq (x : Int) : spec_l1Digit.f x = some (digB x) := by
  unfold spec_l1Digit.f digB
  by_cases h : x ≥ 48
  · rw [if_pos h]
    congr 1
    rw [Bool.eq_iff_iff]
    simp
    omega
  · rw [if_neg h, decide_eq_false (by omega)]
theorem spec_l4Digits_l0_ev (s : ByteArray) (hs : s.size ≤ 140737488351232) : ∀ d n, n + d = s.size → Ev (fun k => spec_l4Digits.l0 k s (n : Int)) (((bytesOf s).drop n).all digB) := by
  intro d
  induction d with
  | zero =>
    intro n hn
    rw [bytes_drop_end s n (by omega)]
    refine Ev.later fun k => ?_
    simp only [spec_l4Digits.l0]
    rw [if_neg (cast_nlt (by omega))]
    rfl
  | succ d ih =>
    intro n hn
    rw [bytes_drop s n (by omega), List.all_cons]
    cases c : digB (bt s (n : Int)) with
    | true =>
      refine Ev.step (fun k => ?_) (ih (n + 1) (by omega))
      simp only [spec_l4Digits.l0]
      rw [if_pos (cast_lt (by omega)), if_pos (by omega), spec_l1Digit_eq, c, Option.bind_some, wrap_succ (n := s.size) (by omega) (cast_lt (by omega)) (by omega)]
      rfl
    | false =>
      refine Ev.later fun k => ?_
      simp only [spec_l4Digits.l0]
      rw [if_pos (cast_lt (by omega)), if_pos (by omega), spec_l1Digit_eq, c, Option.bind_some]
      rfl
theorem spec_l4Digits_ev (s : ByteArray) (hs : s.size ≤ 140737488351232) : Ev (fun k => spec_l4Digits.f k s) (allD s) := by
  unfold spec_l4Digits.f allD
  have := spec_l4Digits_l0_ev s hs s.size 0 (by omega)
  rw [List.drop_zero] at this
  exact this
theorem dropWhile_nil {p : UInt8 → Bool} : ∀ {l : List UInt8}, l.dropWhile p = [] ↔ ∀ b ∈ l, p b = true
  | [] => by simp
  | b :: l => by
    rw [List.dropWhile_cons]
    cases h : p b with
    | true => simp [h, dropWhile_nil (l := l)]
    | false => simp [h]
theorem trimS_nil (l cs : List UInt8) : Lib.trimS l cs = [] ↔ ∀ b ∈ l, cs.contains b = true := by
  unfold Lib.trimS Lib.trimLeftS Lib.trimRightS
  constructor
  · intro h b hb
    have h2 := dropWhile_nil.1 h
    have hr : b ∈ l.reverse := List.mem_reverse.2 hb
    rw [← List.takeWhile_append_dropWhile (p := (cs.contains ·)) (l := l.reverse)] at hr
    rcases List.mem_append.1 hr with hr | hr
    · exact List.all_eq_true.1 List.all_takeWhile b hr
    · exact h2 b (List.mem_reverse.2 hr)
  · intro h
    have : l.reverse.dropWhile (cs.contains ·) = [] := dropWhile_nil.2 fun b hb => h b (List.mem_reverse.1 hb)
    rw [this]
    rfl
def tenB : List UInt8 := [48, 49, 50, 51, 52, 53, 54, 55, 56, 57]
theorem tenB_all : ∀ n : Fin 256, tenB.contains (UInt8.ofNat n.val) = decide (48 ≤ n.val ∧ n.val ≤ 57) := by decide +kernel
theorem tenB_digB (b : UInt8) : tenB.contains b = digB (b.toNat : Int) := by
  have h := tenB_all ⟨b.toNat, b.toNat_lt⟩
  rw [show UInt8.ofNat b.toNat = b from UInt8.ofNat_toNat] at h
  rw [h]
  unfold digB
  rw [Bool.eq_iff_iff]
  simp
  omega
theorem impl_isDigits_eq (s : ByteArray) (hs : s.size ≤ 9223372036854775807) : impl_isDigits.f s = some (allD s) := by
  unfold impl_isDigits.f strings_Trim.f
  rw [if_pos ⟨hs, by decide, by decide⟩, Option.bind_some]
  congr 1
  rw [toList_eq']
  show (Lib.trimS s.data.toList tenB == []) = allD s
  rw [Bool.eq_iff_iff, beq_iff_eq, trimS_nil]
  unfold allD bytesOf
  rw [List.all_eq_true]
  constructor
  · intro h x hx
    obtain ⟨b, hb, rfl⟩ := List.mem_map.1 hx
    rw [← tenB_digB]
    exact h b hb
  · intro h b hb
    rw [tenB_digB]
    exact h _ (List.mem_map.2 ⟨b, hb, rfl⟩)
theorem toList_nil {s : ByteArray} : s.toList = [] ↔ s.size = 0 := by
  rw [toList_eq']
  constructor
  · intro h
    rw [← data_length, h]
    rfl
  · intro h
    exact List.eq_nil_of_length_eq_zero (by rw [data_length]; exact h)
end Go.Proofs.YtdfopjmokbcnlaaDoor.PR
