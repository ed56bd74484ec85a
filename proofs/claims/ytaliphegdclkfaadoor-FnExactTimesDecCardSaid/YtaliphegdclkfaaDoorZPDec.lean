/- Decimal numbers: what both tests of a number come to. -/
import Derived.Test.YtaliphegdclkfaaDoorPZx2
import Derived.Test.YtaliphegdclkfaaDoorPZx5
import Derived.Test.YtaliphegdclkfaaDoorZPBase
import Derived.Test.YtaliphegdclkfaaDoorZPIn
namespace Go.Proofs.YtaliphegdclkfaaDoor.PZ
open Go.RowKit Go.Proofs.YtaliphegdclkfaaDoorW.PrintWords Go.Proofs.YtaliphegdclkfaaDoorW.PrintMore
set_option linter.unusedVariables false
set_option linter.unusedSimpArgs false
def digB (x : Int) : Bool := decide (48 ≤ x ∧ x ≤ 57)
def allD (s : ByteArray) : Bool := (bytesOf s).all digB
theorem spec_l1Digit_eq (x : Int) : spec_l1Digit.f x = some (digB x) := by
  unfold spec_l1Digit.f digB
  by_cases h : x ≥ 48
  · rw [if_pos h]
    congr 1
    rw [Bool.eq_iff_iff]
    simp
    omega
  · rw [if_neg h, decide_eq_false (by omega)]
theorem spec_l4Digits_l0_ev (s : ByteArray) (hs : s.size ≤ 140737488351232) : ∀ d n, n + d = s.size → Ev (fun k => spec_l4Digits.l0 k s (n : Int)) (((bytesOf s).drop n).all digB) := by
  intro d
  induction d with
  | zero =>
    intro n hn
    rw [bytes_drop_end s n (by omega)]
    refine Ev.later fun k => ?_
    simp only [spec_l4Digits.l0]
    rw [if_neg (cast_nlt (by omega))]
    rfl
  | succ d ih =>
    intro n hn
    rw [bytes_drop s n (by omega), List.all_cons]
    cases c : digB (bt s (n : Int)) with
    | true =>
      refine Ev.step (fun k => ?_) (ih (n + 1) (by omega))
      simp only [spec_l4Digits.l0]
      rw [if_pos (cast_lt (by omega)), if_pos (by omega), spec_l1Digit_eq, c, Option.bind_some, wrap_succ (n := s.size) (by omega) (cast_lt (by omega)) (by omega)]
      rfl
    | false =>
      refine Ev.later fun k => ?_
      simp only [spec_l4Digits.l0]
      rw [if_pos (cast_lt (by omega)), if_pos (by omega), spec_l1Digit_eq, c, Option.bind_some]
      rfl
theorem spec_l4Digits_ev (s : ByteArray) (hs : s.size ≤ 140737488351232) : Ev (fun k => spec_l4Digits.f k s) (allD s) := by
  unfold spec_l4Digits.f allD
  have := spec_l4Digits_l0_ev s hs s.size 0 (by omega)
  rw [List.drop_zero] at this
  exact this
theorem dropWhile_nil {p : UInt8 → Bool} : ∀ {l : List UInt8}, l.dropWhile p = [] ↔ ∀ b ∈ l, p b = true
  | [] => by simp
  | b :: l => by
    rw [List.dropWhile_cons]
    cases h : p b with
    | true => simp [h, dropWhile_nil (l := l)]
    | false => simp [h]
theorem trimS_nil (l cs : List UInt8) : Lib.trimS l cs = [] ↔ ∀ b ∈ l, cs.contains b = true := by
  unfold Lib.trimS Lib.trimLeftS Lib.trimRightS
  constructor
  · intro h b hb
    have h2 := dropWhile_nil.1 h
    have hr : b ∈ l.reverse := List.mem_reverse.2 hb
    rw [← List.takeWhile_append_dropWhile (p := (cs.contains ·)) (l := l.reverse)] at hr
    rcases List.mem_append.1 hr with hr | hr
    · exact List.all_eq_true.1 List.all_takeWhile b hr
    · exact h2 b (List.mem_reverse.2 hr)
  · intro h
    have : l.reverse.dropWhile (cs.contains ·) = [] := dropWhile_nil.2 fun b hb => h b (List.mem_reverse.1 hb)
    rw [this]
    rfl
def tenB : List UInt8 := [48, 49, 50, 51, 52, 53, 54, 55, 56, 57]
theorem tenB_all : ∀ n : Fin 256, tenB.contains (UInt8.ofNat n.val) = decide (48 ≤ n.val ∧ n.val ≤ 57) := by decide +kernel
theorem tenB_digB (b : UInt8) : tenB.contains b = digB (b.toNat : Int) := by
  have h := tenB_all ⟨b.toNat, b.toNat_lt⟩
  rw [show UInt8.ofNat b.toNat = b from UInt8.ofNat_toNat] at h
  rw [h]
  unfold digB
  rw [Bool.eq_iff_iff]
  simp
  omega
theorem impl_isDigits_eq (s : ByteArray) (hs : s.size ≤ 9223372036854775807) : impl_isDigits.f s = some (allD s) := by
  unfold impl_isDigits.f strings_Trim.f
  rw [if_pos ⟨hs, by decide, by decide⟩, Option.bind_some]
  congr 1
  rw [toList_eq']
  show (Lib.trimS s.data.toList tenB == []) = allD s
  rw [Bool.eq_iff_iff, beq_iff_eq, trimS_nil]
  unfold allD bytesOf
  rw [List.all_eq_true]
  constructor
  · intro h x hx
    obtain ⟨b, hb, rfl⟩ := List.mem_map.1 hx
    rw [← tenB_digB]
    exact h b hb
  · intro h b hb
    rw [tenB_digB]
    exact h _ (List.mem_map.2 ⟨b, hb, rfl⟩)
theorem toList_nil {s : ByteArray} : s.toList = [] ↔ s.size = 0 := by
  rw [toList_eq']
  constructor
  · intro h
    rw [← data_length, h]
    rfl
  · intro h
    exact List.eq_nil_of_length_eq_zero (by rw [data_length]; exact h)
def decOkF (neg : Bool) (s : ByteArray) (sc : Int) : Bool :=
  if s.size = 0 then (!neg && (sc == 0)) else decide (s.size ≤ 60) && (allD s && ((bt s 0 != 48) && (inR sc 0 60 && ((sc == 0) || (bt s ((s.size : Int) - 1) != 48)))))
theorem allD_empty {s : ByteArray} (h : s.size = 0) : allD s = true := by
  have : bytesOf s = [] := List.eq_nil_of_length_eq_zero (by rw [bytesOf_length]; exact h)
  unfold allD
  rw [this]
  rfl
theorem inR_zero : inR 0 0 60 = true := rfl
theorem spec_DecOk_no (x : Int) (neg : Bool) (s : ByteArray) (sc : Int) : Ev (fun k => spec_DecOk.j0 k x true neg s sc) false := Ev.later fun k => by simp only [spec_DecOk.j0, if_true]
theorem spec_DecOk_ev (neg : Bool) (s : ByteArray) (sc : Int) (hs : s.size ≤ 140737488351232) : Ev (fun k => spec_DecOk.f k neg s sc) (decOkF neg s sc) := by
  unfold spec_DecOk.f decOkF
  by_cases h60 : (s.size : Int) > 60
  · simp only [h60, if_true]
    rw [if_neg (by omega), decide_eq_false (by omega), Bool.false_and]
    exact spec_DecOk_no _ _ _ _
  simp only [h60, if_false]
  refine Ev.bind (spec_l4Digits_ev s hs) ?_
  cases hd : allD s with
  | false =>
    have h0 : ¬ s.size = 0 := fun h => by rw [allD_empty h] at hd; cases hd
    simp only [Bool.false_eq_true, if_false, h0, Bool.false_and, Bool.and_false]
    exact spec_DecOk_no _ _ _ _
  | true =>
    simp only [if_true, spec_l1In_eq, Option.bind_some]
    cases hr : inR sc 0 60 with
    | false =>
      simp only [Bool.not_false, Bool.false_and, Bool.and_false]
      by_cases h0 : s.size = 0
      · have : (sc == 0) = false := beq_eq_false_iff_ne.2 fun e => by rw [e, inR_zero] at hr; cases hr
        rw [if_pos h0, this, Bool.and_false]
        exact spec_DecOk_no _ _ _ _
      · rw [if_neg h0]
        exact spec_DecOk_no _ _ _ _
    | true =>
      refine Ev.later fun k => ?_
      simp only [spec_DecOk.j0, Bool.not_true, Bool.false_eq_true, if_false, Bool.true_and]
      by_cases h0 : s.size = 0
      · rw [if_pos (by omega), if_pos h0]
        cases neg <;> simp
      · rw [if_neg (by omega), if_neg h0, if_pos (by omega), decide_eq_true (by omega), Bool.true_and, w64 (x := (s.size : Int) - 1) (by omega) (by omega)]
        by_cases h1 : bt s 0 = 48
        · rw [if_pos h1]; simp [h1]
        · rw [if_neg h1]
          by_cases h2 : sc = 0
          · rw [if_pos h2, show (bt s 0 != 48) = true from bne_iff_ne.2 h1, show (sc == 0) = true from beq_iff_eq.2 h2]; rfl
          · rw [if_neg h2, if_pos (by omega), if_pos (by omega), show (bt s 0 != 48) = true from bne_iff_ne.2 h1, show (sc == 0) = false from beq_eq_false_iff_ne.2 h2, Bool.true_and, Bool.false_or]
theorem impl_DecOk_eq (neg : Bool) (s : ByteArray) (sc : Int) (hs : s.size ≤ 140737488351232) : impl_DecOk.f neg s sc = some (decOkF neg s sc) := by
  unfold impl_DecOk.f decOkF
  by_cases h0 : s.size = 0
  · rw [if_pos (toList_nil.2 h0), if_pos h0, toList_nil.2 h0]
    simp
  rw [if_neg (fun h => h0 (toList_nil.1 h)), if_neg h0]
  by_cases h60 : (s.size : Int) ≤ 60
  · rw [if_pos h60, decide_eq_true (show s.size ≤ 60 by omega), impl_isDigits_eq s (by omega), Option.bind_some]
    cases allD s with
    | false => rfl
    | true =>
      simp only [if_true, Bool.true_and]
      rw [if_pos (show 0 < (s.size : Int) by omega)]
      by_cases h1 : bt s 0 = 48
      · rw [if_pos h1]; simp [h1]
      · rw [if_neg h1, impl_in_eq, Option.bind_some]
        cases inR sc 0 60 with
        | false => simp
        | true =>
          simp only [if_true, Bool.true_and]
          by_cases h2 : sc = 0
          · rw [if_pos h2, show (bt s 0 != 48) = true from bne_iff_ne.2 h1, show (sc == 0) = true from beq_iff_eq.2 h2]; rfl
          · rw [if_neg h2, w64 (x := (s.size : Int) - 1) (by omega) (by omega), if_pos (by omega), if_pos (by omega), show (bt s 0 != 48) = true from bne_iff_ne.2 h1, show (sc == 0) = false from beq_eq_false_iff_ne.2 h2, Bool.true_and, Bool.false_or]
  · rw [if_neg h60, decide_eq_false (by omega)]
    rfl
theorem mx_comm' (a b : Int) : mx a b = mx b a := by unfold mx; split <;> split <;> omega
end Go.Proofs.YtaliphegdclkfaaDoor.PZ
