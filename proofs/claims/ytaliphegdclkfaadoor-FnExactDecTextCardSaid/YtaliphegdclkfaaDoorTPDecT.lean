/- Decimal numbers: a number written, by both. -/
import Derived.Test.YtaliphegdclkfaaDoorPTx2
import Derived.Test.YtaliphegdclkfaaDoorPTx3
import Derived.Test.YtaliphegdclkfaaDoorTPBase
import Derived.Test.YtaliphegdclkfaaDoorTPIn
import Derived.Test.YtaliphegdclkfaaDoorTPBytes
import Derived.Test.YtaliphegdclkfaaDoorTPDec
namespace Go.Proofs.YtaliphegdclkfaaDoor.PT
open Go.RowKit Go.Proofs.YtaliphegdclkfaaDoorW.PrintWords Go.Proofs.YtaliphegdclkfaaDoorW.PrintMore
set_option linter.unusedVariables false
set_option linter.unusedSimpArgs false
def zeros (n : Nat) : ByteArray := ⟨(List.replicate n 48).toArray⟩
theorem zeros_list (n : Nat) : (zeros n).data.toList = List.replicate n 48 := by unfold zeros; rw [List.toList_toArray]
theorem zeros_size (n : Nat) : (zeros n).size = n := by
  rw [← data_length, zeros_list, List.length_replicate]
theorem zeros_next (n : Nat) (s : ByteArray) : zeros n ++ ((⟨#[48]⟩ : ByteArray) ++ s) = zeros (n + 1) ++ s := by
  apply bytes_ext
  rw [append_list, append_list, append_list, zeros_list, zeros_list]
  show List.replicate n (48 : UInt8) ++ (48 :: s.data.toList) = List.replicate (n + 1) 48 ++ s.data.toList
  rw [List.replicate_succ', List.append_assoc]
  rfl
theorem zeros_nil (s : ByteArray) : zeros 0 ++ s = s := by
  apply bytes_ext
  rw [append_list, zeros_list]
  rfl
theorem repeatL_one : ∀ n : Nat, Lib.repeatL [48] n = List.replicate n (48 : UInt8) := by
  intro n
  induction n with
  | zero => rfl
  | succ n ih =>
    rw [Lib.repeatL, ih, List.replicate_succ]
    rfl
theorem strings_Repeat_zeros (n : Int) (h0 : 0 ≤ n) (h1 : n ≤ 1000000) : strings_Repeat.f (⟨#[48]⟩ : ByteArray) n = some (zeros n.toNat) := by
  unfold strings_Repeat.f
  have e : (⟨#[48]⟩ : ByteArray).size = 1 := rfl
  rw [if_pos ⟨h0, by omega, by rw [e]; omega⟩]
  congr 1
  show (⟨(Lib.repeatL [48] n.toNat).toArray⟩ : ByteArray) = zeros n.toNat
  rw [repeatL_one]
  rfl
def textF (neg : Bool) (s : ByteArray) (sc : Int) : ByteArray :=
  if neg = true then (⟨#[45]⟩ : ByteArray) ++ (if sc > 0 then (s.extract 0 ((s.size : Int) - sc).toNat ++ (⟨#[46]⟩ : ByteArray)) ++ s.extract ((s.size : Int) - sc).toNat s.size else s)
  else (if sc > 0 then (s.extract 0 ((s.size : Int) - sc).toNat ++ (⟨#[46]⟩ : ByteArray)) ++ s.extract ((s.size : Int) - sc).toNat s.size else s)
theorem decOkF_range {neg : Bool} {s : ByteArray} {sc : Int} (h : decOkF neg s sc = true) : s.size ≤ 60 ∧ 0 ≤ sc ∧ sc ≤ 60 := by
  unfold decOkF at h
  by_cases h0 : s.size = 0
  · rw [if_pos h0] at h
    simp at h
    omega
  · rw [if_neg h0] at h
    simp only [Bool.and_eq_true, decide_eq_true_eq, inR_true] at h
    omega
theorem spec_Text_l0_ev (neg : Bool) (x : ByteArray) (sc : Int) (hc0 : 0 ≤ sc) (hc1 : sc ≤ 60) : ∀ (d : Nat) (s : ByteArray), d = (sc + 1 - (s.size : Int)).toNat → s.size ≤ 1000 → Ev (fun k => spec_DecText.l0 k s neg x sc) (textF neg (zeros d ++ s) sc) := by
  intro d
  induction d with
  | zero =>
    intro s hd hs
    rw [zeros_nil]
    refine Ev.later fun k => ?_
    have e1 : wrap64 ((s.size : Int) - sc) = (s.size : Int) - sc := w64 (by omega) (by omega)
    have z1 := extract_le s 0 ((s.size : Int) - sc).toNat
    have z2 := extract_le s ((s.size : Int) - sc).toNat s.size
    simp only [spec_DecText.l0]
    rw [if_neg (by omega), e1]
    unfold textF
    by_cases c : sc > 0
    · simp only [c, if_true]
      rw [if_pos (by omega), if_pos (by omega), if_pos (by omega), if_pos (by omega)]
      by_cases n : neg = true
      · rw [if_pos n, if_pos (by omega), if_pos n]
      · rw [if_neg n, if_neg n]
    · simp only [c, if_false]
      by_cases n : neg = true
      · rw [if_pos n, if_pos (by omega), if_pos n]
      · rw [if_neg n, if_neg n]
  | succ d ih =>
    intro s hd hs
    rw [← zeros_next]
    have hz : ((⟨#[48]⟩ : ByteArray) ++ s).size = s.size + 1 := by
      rw [ByteArray.size_append]
      show 1 + s.size = s.size + 1
      omega
    refine Ev.step (fun k => ?_) (ih ((⟨#[48]⟩ : ByteArray) ++ s) (by rw [hz]; omega) (by rw [hz]; omega))
    simp only [spec_DecText.l0]
    rw [if_pos (by omega), if_pos (by omega)]
def decTextF (neg : Bool) (s : ByteArray) (sc : Int) : ByteArray := if decOkF neg s sc = true then textF neg (zeros (sc + 1 - (s.size : Int)).toNat ++ s) sc else (⟨#[]⟩ : ByteArray)
theorem spec_DecText_ev (neg : Bool) (s : ByteArray) (sc : Int) (hs : s.size ≤ 140737488351232) : Ev (fun k => spec_DecText.f k neg s sc) (decTextF neg s sc) := by
  unfold spec_DecText.f decTextF
  refine Ev.bind (spec_DecOk_ev neg s sc hs) ?_
  by_cases h : decOkF neg s sc = true
  · simp only [h, if_true]
    obtain ⟨h1, h2, h3⟩ := decOkF_range h
    exact spec_Text_l0_ev neg s sc h2 h3 _ s rfl (by omega)
  · simp only [h, if_false]
    exact Ev.now _
theorem impl_Text_j0_ev (neg : Bool) (x : ByteArray) (sc : Int) (hc0 : 0 ≤ sc) (hc1 : sc ≤ 60) (s : ByteArray) (hs : s.size ≤ 1000) (hl : sc + 1 ≤ (s.size : Int)) : Ev (fun k => impl_DecText.j0 k s neg x sc) (textF neg s sc) := by
  refine Ev.later fun k => ?_
  have e1 : wrap64 ((s.size : Int) - sc) = (s.size : Int) - sc := w64 (by omega) (by omega)
  have z1 := extract_le s 0 ((s.size : Int) - sc).toNat
  have z2 := extract_le s ((s.size : Int) - sc).toNat s.size
  simp only [impl_DecText.j0]
  rw [e1, if_pos (by omega), if_pos (by omega)]
  unfold textF
  by_cases c : sc > 0
  · simp only [c, if_true]
    rw [if_pos (by omega), if_pos (by omega)]
    by_cases n : neg = true
    · rw [if_pos n, if_pos (by omega), if_pos n]
      simp only [ByteArray.append_assoc]
    · rw [if_neg n, if_neg n]
      simp only [ByteArray.append_assoc]
  · have e0 : sc = 0 := by omega
    subst e0
    have e2 : ((s.size : Int) - 0).toNat = s.size := by omega
    simp only [c, if_false]
    rw [e2, extract_self]
    by_cases n : neg = true
    · rw [if_pos n, if_pos (by omega), if_pos n]
    · rw [if_neg n, if_neg n]
theorem impl_DecText_ev (neg : Bool) (s : ByteArray) (sc : Int) (hs : s.size ≤ 140737488351232) : Ev (fun k => impl_DecText.f k neg s sc) (decTextF neg s sc) := by
  unfold impl_DecText.f decTextF
  rw [impl_DecOk_eq neg s sc hs]
  simp only [Option.bind_some]
  by_cases h : decOkF neg s sc = true
  · simp only [h, if_true]
    obtain ⟨h1, h2, h3⟩ := decOkF_range h
    rw [w64 (x := sc + 1) (by omega) (by omega), w64 (x := sc + 1 - (s.size : Int)) (by omega) (by omega)]
    by_cases c : sc + 1 - (s.size : Int) > 0
    · simp only [c, if_true]
      have hz : (zeros (sc + 1 - (s.size : Int)).toNat ++ s).size = (sc + 1 - (s.size : Int)).toNat + s.size := by rw [ByteArray.size_append, zeros_size]
      simp only [strings_Repeat_zeros _ (show 0 ≤ sc + 1 - (s.size : Int) by omega) (by omega), Option.bind_some, zeros_size, show ((sc + 1 - (s.size : Int)).toNat + s.size ≤ 9223372036854775807) = True from eq_true (by omega), if_true]
      exact impl_Text_j0_ev neg s sc h2 h3 _ (by rw [hz]; omega) (by rw [hz]; omega)
    · simp only [c, if_false]
      rw [show (sc + 1 - (s.size : Int)).toNat = 0 by omega, zeros_nil]
      exact impl_Text_j0_ev neg s sc h2 h3 s (by omega) (by omega)
  · simp only [h, if_false]
    exact Ev.now _
end Go.Proofs.YtaliphegdclkfaaDoor.PT
