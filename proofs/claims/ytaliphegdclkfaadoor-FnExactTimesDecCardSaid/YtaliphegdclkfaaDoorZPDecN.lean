/- Decimal numbers: a number without needless noughts, by both. -/
import Derived.Test.YtaliphegdclkfaaDoorPZx2
import Derived.Test.YtaliphegdclkfaaDoorPZx3
import Derived.Test.YtaliphegdclkfaaDoorPZx5
import Derived.Test.YtaliphegdclkfaaDoorPZx7
import Derived.Test.YtaliphegdclkfaaDoorZPBase
import Derived.Test.YtaliphegdclkfaaDoorZPIn
import Derived.Test.YtaliphegdclkfaaDoorZPDec
import Derived.Lib.ValidAsc
namespace Go.Proofs.YtaliphegdclkfaaDoor.PZ
open Go.RowKit Go.Proofs.YtaliphegdclkfaaDoorW.PrintWords Go.Proofs.YtaliphegdclkfaaDoorW.PrintMore
set_option linter.unusedVariables false
set_option linter.unusedSimpArgs false
abbrev DRes := Bool × ByteArray × Int × Bool
def noDec : DRes := (false, (⟨#[]⟩ : ByteArray), 0, false)
def stripL (s : ByteArray) : ByteArray := ⟨(Lib.trimLeftS s.data.toList [48]).toArray⟩
def endF (neg : Bool) (s : ByteArray) (sc : Int) : DRes :=
  if (stripL s).size = 0 then (false, (⟨#[]⟩ : ByteArray), 0, true) else if decOkF neg (stripL s) sc = true then (neg, stripL s, sc, true) else noDec
def normF (neg : Bool) : Nat → ByteArray → Int → DRes
  | 0, s, sc => endF neg s sc
  | d + 1, s, sc => if sc > 0 ∧ bt s ((s.size : Int) - 1) = 48 then normF neg d (s.extract 0 (s.size - 1)) (sc - 1) else endF neg s sc
theorem decOkF_zero : decOkF false (⟨#[]⟩ : ByteArray) 0 = true := rfl
theorem bt_first (s : ByteArray) (b : UInt8) (l : List UInt8) (h : s.data.toList = b :: l) : bt s 0 = (b.toNat : Int) := by
  rw [← rd_bytesOf]
  unfold bytesOf rd
  rw [h]
  rfl
theorem stripL_size (s : ByteArray) : (stripL s).size ≤ s.size := by
  show (Lib.trimLeftS s.data.toList [48]).toArray.size ≤ s.size
  rw [List.size_toArray, ← data_length]
  exact (List.dropWhile_sublist _).length_le
theorem stripL_empty {s : ByteArray} (h : s.size = 0) : (stripL s).size = 0 := by have := stripL_size s; omega
theorem stripL_hit {s : ByteArray} (h0 : 0 < s.size) (h : bt s 0 = 48) : stripL s = stripL (s.extract 1 s.size) := by
  unfold stripL
  rw [Lib.ext_list]
  cases hl : s.data.toList with
  | nil => have := data_length s; rw [hl] at this; simp at this; omega
  | cons b l =>
    rw [bt_first s b l hl] at h
    have hb : b = 48 := by
      apply UInt8.toNat_inj.1
      show b.toNat = 48
      omega
    subst hb
    rfl
theorem stripL_miss {s : ByteArray} (h0 : 0 < s.size) (h : ¬ bt s 0 = 48) : stripL s = s := by
  apply ByteArray.ext
  apply Array.ext'
  show (Lib.trimLeftS s.data.toList [48]).toArray.toList = s.data.toList
  rw [List.toList_toArray]
  cases hl : s.data.toList with
  | nil => rfl
  | cons b l =>
    rw [bt_first s b l hl] at h
    have hb : ([48] : List UInt8).contains b = false := by
      rw [Lib.contains_one]
      exact beq_eq_false_iff_ne.2 fun e => h (by rw [e]; rfl)
    unfold Lib.trimLeftS
    rw [List.dropWhile_cons, hb]
    rfl
theorem extract_one_size (s : ByteArray) : (s.extract 1 s.size).size = s.size - 1 := Lib.ext_size s 1
theorem spec_Norm_j3_ev (neg : Bool) (s : ByteArray) (sc : Int) (hs : s.size ≤ 140737488351232) (h : stripL s = s) : Ev (fun k => spec_l4Norm.j3 k neg s sc) (endF neg s sc) := by
  unfold endF
  rw [h]
  by_cases h0 : s.size = 0
  · rw [if_pos h0]
    refine Ev.step (f := fun k => (spec_DecOk.f k false (⟨#[]⟩ : ByteArray) 0).bind fun t141 => (if t141 = true then (some (false, (⟨#[]⟩ : ByteArray), 0, true)) else (some (false, (⟨#[]⟩ : ByteArray), 0, false)))) (fun k => ?_) ?_
    · simp only [spec_l4Norm.j3]
      rw [if_pos (toList_nil.2 h0)]
    · refine Ev.bind (spec_DecOk_ev _ _ _ (by decide)) ?_
      rw [decOkF_zero]
      exact Ev.now _
  · rw [if_neg h0]
    refine Ev.step (f := fun k => (spec_DecOk.f k neg s sc).bind fun t142 => (if t142 = true then (some (neg, s, sc, true)) else (some (false, (⟨#[]⟩ : ByteArray), 0, false)))) (fun k => ?_) ?_
    · simp only [spec_l4Norm.j3]
      rw [if_neg (fun h => h0 (toList_nil.1 h))]
    · refine Ev.bind (spec_DecOk_ev _ _ _ hs) ?_
      cases decOkF neg s sc <;> exact Ev.now _
theorem spec_Norm_l1_ev (neg : Bool) (sc : Int) : ∀ d (s : ByteArray), s.size = d → s.size ≤ 140737488351232 → Ev (fun k => spec_l4Norm.l1 k neg s sc) (endF neg s sc) := by
  intro d
  induction d with
  | zero =>
    intro s hd hs
    refine Ev.step (f := fun k => spec_l4Norm.j3 k neg s sc) (fun k => ?_) (spec_Norm_j3_ev neg s sc hs ?_)
    · simp only [spec_l4Norm.l1]
      rw [if_pos (toList_nil.2 hd)]
    · apply ByteArray.ext
      apply Array.ext'
      have e1 : (stripL s).data.toList = [] := List.eq_nil_of_length_eq_zero (by rw [data_length]; exact stripL_empty hd)
      have e2 : s.data.toList = [] := List.eq_nil_of_length_eq_zero (by rw [data_length]; exact hd)
      rw [e1, e2]
  | succ d ih =>
    intro s hd hs
    by_cases h : bt s 0 = 48
    · have e : endF neg s sc = endF neg (s.extract 1 s.size) sc := by unfold endF; rw [stripL_hit (by omega) h]
      rw [e]
      refine Ev.step (fun k => ?_) (ih (s.extract 1 s.size) (by rw [extract_one_size]; omega) (by rw [extract_one_size]; omega))
      simp only [spec_l4Norm.l1]
      rw [if_neg (fun h => by have := toList_nil.1 h; omega), if_pos (by omega), if_pos h, if_pos (by omega)]
    · refine Ev.step (f := fun k => spec_l4Norm.j3 k neg s sc) (fun k => ?_) (spec_Norm_j3_ev neg s sc hs (stripL_miss (by omega) h))
      simp only [spec_l4Norm.l1]
      rw [if_neg (fun h => by have := toList_nil.1 h; omega), if_pos (by omega), if_neg h]
theorem extract_last_size (s : ByteArray) (h : 0 < s.size) : (s.extract 0 (s.size - 1)).size = s.size - 1 := by rw [ByteArray.size_extract]; omega
theorem spec_Norm_l0_ev (neg : Bool) : ∀ d (s : ByteArray) (sc : Int), s.size = d → s.size ≤ 140737488351232 → -9223372036854775808 ≤ sc → sc ≤ 9223372036854775807 → Ev (fun k => spec_l4Norm.l0 k neg s sc) (normF neg d s sc) := by
  intro d
  induction d with
  | zero =>
    intro s sc hd hs hc0 hc1
    refine Ev.step (f := fun k => spec_l4Norm.j1 k neg s sc) (fun k => ?_) (Ev.step (f := fun k => spec_l4Norm.l1 k neg s sc) (fun k => rfl) (spec_Norm_l1_ev neg sc _ s rfl hs))
    simp only [spec_l4Norm.l0]
    rw [if_pos (toList_nil.2 hd)]
    split <;> rfl
  | succ d ih =>
    intro s sc hd hs hc0 hc1
    have e : wrap64 ((s.size : Int) - 1) = (s.size : Int) - 1 := w64 (by omega) (by omega)
    have e2 : ((s.size : Int) - 1).toNat = s.size - 1 := by omega
    unfold normF
    by_cases h : sc > 0 ∧ bt s ((s.size : Int) - 1) = 48
    · rw [if_pos h]
      refine Ev.step (fun k => ?_) (ih (s.extract 0 (s.size - 1)) (sc - 1) (by rw [extract_last_size s (by omega)]; omega) (by rw [extract_last_size s (by omega)]; omega) (by omega) (by omega))
      simp only [spec_l4Norm.l0]
      rw [if_pos h.1, if_neg (fun h => by have := toList_nil.1 h; omega), e, if_pos (by omega), if_pos (by omega), if_pos h.2, if_pos (by omega), e2, w64 (x := sc - 1) (by omega) (by omega)]
    · rw [if_neg h]
      refine Ev.step (f := fun k => spec_l4Norm.j1 k neg s sc) (fun k => ?_) (Ev.step (f := fun k => spec_l4Norm.l1 k neg s sc) (fun k => rfl) (spec_Norm_l1_ev neg sc _ s rfl hs))
      simp only [spec_l4Norm.l0]
      by_cases h1 : sc > 0
      · rw [if_pos h1, if_neg (fun h => by have := toList_nil.1 h; omega), e, if_pos (by omega), if_pos (by omega), if_neg (fun h2 => h ⟨h1, h2⟩)]
      · rw [if_neg h1]
theorem impl_Norm_j1_ev (neg : Bool) (s : ByteArray) (sc : Int) (hs : s.size ≤ 140737488351232) : Ev (fun k => impl_made.j1 k neg s sc) (endF neg s sc) := by
  refine Ev.later fun k => ?_
  have hsz := stripL_size s
  have ht : strings_TrimLeft.f s (⟨#[48]⟩ : ByteArray) = some (stripL s) := by
    unfold strings_TrimLeft.f
    rw [if_pos ⟨by omega, by decide, by decide⟩]
    rfl
  simp only [impl_made.j1, ht, Option.bind_some]
  unfold endF
  by_cases h0 : (stripL s).size = 0
  · rw [if_pos (toList_nil.2 h0), if_pos h0, impl_DecOk_eq _ _ _ (by decide), Option.bind_some, decOkF_zero]
    rfl
  · rw [if_neg (fun h => h0 (toList_nil.1 h)), if_neg h0, impl_DecOk_eq _ _ _ (by omega), Option.bind_some]
    cases decOkF neg (stripL s) sc <;> rfl
theorem impl_made_l0_ev (neg : Bool) : ∀ d (s : ByteArray) (sc : Int), s.size = d → s.size ≤ 140737488351232 → -9223372036854775808 ≤ sc → sc ≤ 9223372036854775807 → Ev (fun k => impl_made.l0 k neg s sc) (normF neg d s sc) := by
  intro d
  induction d with
  | zero =>
    intro s sc hd hs hc0 hc1
    refine Ev.step (f := fun k => impl_made.j1 k neg s sc) (fun k => ?_) (impl_Norm_j1_ev neg s sc hs)
    simp only [impl_made.l0]
    rw [if_pos (toList_nil.2 hd)]
    split <;> rfl
  | succ d ih =>
    intro s sc hd hs hc0 hc1
    have e : wrap64 ((s.size : Int) - 1) = (s.size : Int) - 1 := w64 (by omega) (by omega)
    have e2 : ((s.size : Int) - 1).toNat = s.size - 1 := by omega
    unfold normF
    by_cases h : sc > 0 ∧ bt s ((s.size : Int) - 1) = 48
    · rw [if_pos h]
      refine Ev.step (fun k => ?_) (ih (s.extract 0 (s.size - 1)) (sc - 1) (by rw [extract_last_size s (by omega)]; omega) (by rw [extract_last_size s (by omega)]; omega) (by omega) (by omega))
      simp only [impl_made.l0]
      rw [if_pos h.1, if_neg (fun h => by have := toList_nil.1 h; omega), e, if_pos (by omega), if_pos (by omega), if_pos h.2, if_pos (by omega), e2, w64 (x := sc - 1) (by omega) (by omega)]
    · rw [if_neg h]
      refine Ev.step (f := fun k => impl_made.j1 k neg s sc) (fun k => ?_) (impl_Norm_j1_ev neg s sc hs)
      simp only [impl_made.l0]
      by_cases h1 : sc > 0
      · rw [if_pos h1, if_neg (fun h => by have := toList_nil.1 h; omega), e, if_pos (by omega), if_pos (by omega), if_neg (fun h2 => h ⟨h1, h2⟩)]
      · rw [if_neg h1]
theorem spec_Norm_ev (neg : Bool) (s : ByteArray) (sc : Int) (hs : s.size ≤ 140737488351232) (hc0 : -9223372036854775808 ≤ sc) (hc1 : sc ≤ 9223372036854775807) : Ev (fun k => spec_l4Norm.f k neg s sc) (normF neg s.size s sc) := by
  unfold spec_l4Norm.f
  exact spec_Norm_l0_ev neg s.size s sc rfl hs hc0 hc1
theorem impl_made_ev (neg : Bool) (s : ByteArray) (sc : Int) (hs : s.size ≤ 140737488351232) (hc0 : -9223372036854775808 ≤ sc) (hc1 : sc ≤ 9223372036854775807) : Ev (fun k => impl_made.f k neg s sc) (normF neg s.size s sc) := by
  unfold impl_made.f
  exact impl_made_l0_ev neg s.size s sc rfl hs hc0 hc1
theorem eqDec_self (d : DRes) : laws_eqDec.f d.1 d.2.1 d.2.2.1 d.1 d.2.1 d.2.2.1 = some true := by
  unfold laws_eqDec.f
  simp
end Go.Proofs.YtaliphegdclkfaaDoor.PZ
