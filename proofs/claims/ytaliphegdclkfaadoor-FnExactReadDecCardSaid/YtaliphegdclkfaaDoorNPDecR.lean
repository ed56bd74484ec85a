/- Decimal numbers: a text read as one, by both. -/
import Derived.Test.YtaliphegdclkfaaDoorPNx2
import Derived.Test.YtaliphegdclkfaaDoorPNx3
import Derived.Test.YtaliphegdclkfaaDoorPNx4
import Derived.Test.YtaliphegdclkfaaDoorPNx5
import Derived.Test.YtaliphegdclkfaaDoorNPBase
import Derived.Test.YtaliphegdclkfaaDoorNPIn
import Derived.Test.YtaliphegdclkfaaDoorNPDec
import Derived.Test.YtaliphegdclkfaaDoorNPDecN
namespace Go.Proofs.YtaliphegdclkfaaDoor.PN
open Go.RowKit Go.Proofs.YtaliphegdclkfaaDoorW.PrintWords Go.Proofs.YtaliphegdclkfaaDoorW.PrintMore
set_option linter.unusedVariables false
set_option linter.unusedSimpArgs false
def fcc (c : Int) : List Int → Int
  | [] => -1
  | b :: l => if b = c then 0 else if fcc c l = -1 then -1 else fcc c l + 1
theorem fcc_range (c : Int) : ∀ l : List Int, -1 ≤ fcc c l ∧ fcc c l < (l.length : Int)
  | [] => by simp [fcc]
  | b :: l => by
    have := fcc_range c l
    simp only [fcc, List.length_cons]
    repeat' split
    all_goals omega
theorem indexByte_fcc (u : UInt8) : ∀ l : List UInt8, Lib.indexByte l u = fcc (u.toNat : Int) (l.map fun b => (b.toNat : Int))
  | [] => rfl
  | b :: l => by
    have ih := indexByte_fcc u l
    simp only [Lib.indexByte, fcc, List.map_cons, ih]
    by_cases c : b = u
    · subst c
      simp
    · have c2 : ¬ (b.toNat : Int) = (u.toNat : Int) := fun e => c (UInt8.toNat_inj.1 (by omega))
      have c3 : (b == u) = false := beq_eq_false_iff_ne.2 c
      rw [if_neg c2, c3]
      simp
def dotI (s : ByteArray) : Int := fcc 46 (bytesOf s)
theorem dotI_range (s : ByteArray) : -1 ≤ dotI s ∧ dotI s < (s.size : Int) := by
  have := fcc_range 46 (bytesOf s)
  rw [bytesOf_length] at this
  exact this
def leftS (s : ByteArray) : ByteArray := if dotI s < 0 then s else s.extract 0 (dotI s).toNat
def rightS (s : ByteArray) : ByteArray := if dotI s < 0 then (⟨#[]⟩ : ByteArray) else s.extract (dotI s + 1).toNat s.size
theorem strings_Cut_dot (s : ByteArray) (hs : s.size ≤ 140737488351232) : ∃ b, strings_Cut.f s (⟨#[46]⟩ : ByteArray) = some (leftS s, rightS s, b) := by
  have hr := dotI_range s
  have hx : stringslite_Index.f s (⟨#[46]⟩ : ByteArray) = some (dotI s) := by
    unfold stringslite_Index.f
    rw [if_pos (by rfl)]
    by_cases c : (⟨#[46]⟩ : ByteArray).toList = s.toList
    · rw [if_pos c]
      have : s = ⟨#[46]⟩ := (bytes_inj c).symm
      subst this
      rfl
    · rw [if_neg c]
      unfold stringslite_IndexByte.f dotI
      have e : (bt (⟨#[46]⟩ : ByteArray) 0).toNat.toUInt8 = 46 := by decide
      rw [e, indexByte_fcc]
      rfl
  unfold strings_Cut.f stringslite_Cut.f leftS rightS
  rw [hx]
  simp only [Option.bind_some]
  by_cases c : dotI s < 0
  · rw [if_neg (show ¬ dotI s ≥ 0 by omega), if_pos c, if_pos c]
    exact ⟨false, rfl⟩
  · have w1 : wrap64 (dotI s + (((⟨#[46]⟩ : ByteArray).size : Nat) : Int)) = dotI s + 1 := w64 (by have : ((⟨#[46]⟩ : ByteArray).size : Int) = 1 := rfl; omega) (by have : ((⟨#[46]⟩ : ByteArray).size : Int) = 1 := rfl; omega)
    rw [if_pos (show dotI s ≥ 0 by omega), if_pos (show 0 ≤ dotI s by omega), if_pos (show dotI s ≤ (s.size : Int) by omega), w1, if_pos (show 0 ≤ dotI s + 1 by omega), if_pos (show dotI s + 1 ≤ (s.size : Int) by omega), if_neg c, if_neg c]
    exact ⟨true, rfl⟩
theorem bytesOf_append (a b : ByteArray) : bytesOf (a ++ b) = bytesOf a ++ bytesOf b := by
  unfold bytesOf
  rw [ByteArray.data_append, Array.toList_append, List.map_append]
theorem allD_append (a b : ByteArray) : allD (a ++ b) = (allD a && allD b) := by
  unfold allD
  rw [bytesOf_append, List.all_append]
def readF (neg : Bool) (n : Nat) (a b : ByteArray) : DRes :=
  if n > 180 then noDec else if (a ++ b).size = 0 then noDec else if allD (a ++ b) = true then normF neg (a ++ b).size (a ++ b) (b.size : Int) else noDec
theorem extract_le (s : ByteArray) (a b : Nat) : (s.extract a b).size ≤ s.size := by rw [ByteArray.size_extract]; omega
theorem spec_Read_j4_ev (neg : Bool) (s a b : ByteArray) (hbig : a.size + b.size ≤ 140737488351232) : Ev (fun k => spec_ReadDec.j4 k s neg a b) (readF neg s.size a b) := by
  unfold readF
  by_cases h : s.size > 180
  · rw [if_pos h]
    refine Ev.later fun k => ?_
    simp only [spec_ReadDec.j4]
    rw [if_pos (show (s.size : Int) > 180 by omega)]
    rfl
  rw [if_neg h]
  refine Ev.step (f := fun k => (spec_l4Digits.f k a).bind fun t144 => (if t144 = true then ((spec_l4Digits.f k b).bind fun t145 => (if t145 = true then (if a.size + b.size ≤ 9223372036854775807 then (if (a ++ b).toList = ([] : List UInt8) then (some (false, (⟨#[]⟩ : ByteArray), 0, false)) else ((spec_l4Norm.f k neg (a ++ b) (b.size : Int)).bind fun bt146 => (some (bt146.1, bt146.2.1, bt146.2.2.1, bt146.2.2.2)))) else (none)) else (some (false, (⟨#[]⟩ : ByteArray), 0, false)))) else (some (false, (⟨#[]⟩ : ByteArray), 0, false)))) (fun k => ?_) ?_
  · simp only [spec_ReadDec.j4]
    rw [if_neg (show ¬ (s.size : Int) > 180 by omega)]
  refine Ev.bind (spec_l4Digits_ev a (by omega)) ?_
  rw [allD_append]
  cases hda : allD a with
  | false =>
    simp only [Bool.false_eq_true, if_false, Bool.false_and]
    have : (if (a ++ b).size = 0 then noDec else noDec) = noDec := by split <;> rfl
    rw [this]
    exact Ev.now _
  | true =>
    simp only [if_true, Bool.true_and]
    refine Ev.bind (spec_l4Digits_ev b (by omega)) ?_
    cases hdb : allD b with
    | false =>
      simp only [Bool.false_eq_true, if_false]
      have : (if (a ++ b).size = 0 then noDec else noDec) = noDec := by split <;> rfl
      rw [this]
      exact Ev.now _
    | true =>
      simp only [if_true]
      simp only [show (a.size + b.size ≤ 9223372036854775807) = True from eq_true (by omega), if_true]
      by_cases h0 : (a ++ b).size = 0
      · simp only [toList_nil.2 h0, h0, if_true]
        exact Ev.now _
      · simp only [show ((a ++ b).toList = []) = False from eq_false (fun h => h0 (toList_nil.1 h)), h0, if_false]
        refine Ev.bind (spec_Norm_ev neg (a ++ b) (b.size : Int) (by rw [ByteArray.size_append]; omega) (by omega) (by omega)) ?_
        exact Ev.now _
theorem extract_self (s : ByteArray) : s.extract 0 s.size = s := by
  apply ByteArray.ext
  apply Array.ext'
  rw [Lib.extract_data, List.drop_zero, List.take_of_length_le (by rw [data_length]; omega)]
theorem parts_size (s : ByteArray) : (leftS s).size + (rightS s).size ≤ s.size := by
  have hr := dotI_range s
  unfold leftS rightS
  by_cases c : dotI s < 0
  · rw [if_pos c, if_pos c]
    exact Nat.le_refl _
  · rw [if_neg c, if_neg c, ByteArray.size_extract, ByteArray.size_extract]
    omega
theorem spec_Read_j3_ev (neg : Bool) (s : ByteArray) (hs : s.size ≤ 140737488351232) : Ev (fun k => spec_ReadDec.j3 k s neg (if dotI s < 0 then (s.size : Int) else dotI s)) (readF neg s.size (leftS s) (rightS s)) := by
  have hr := dotI_range s
  have hp := parts_size s
  refine Ev.step (f := fun k => spec_ReadDec.j4 k s neg (leftS s) (rightS s)) (fun k => ?_) (spec_Read_j4_ev neg s _ _ (by omega))
  simp only [spec_ReadDec.j3]
  unfold leftS rightS
  by_cases c : dotI s < 0
  · simp only [c, if_true]
    rw [if_pos (by omega), if_pos (by omega), if_neg (by omega), Int.toNat_natCast, extract_self]
  · simp only [c, if_false]
    rw [if_pos (by omega), if_pos (by omega), if_pos (by omega), w64 (x := dotI s + 1) (by omega) (by omega), if_pos (by omega), if_pos (by omega)]
theorem spec_Read_l0_ev (neg : Bool) (s : ByteArray) (hs : s.size ≤ 140737488351232) : ∀ (d n : Nat), n + d = s.size → ((fcc 46 ((bytesOf s).drop n) = -1 ∧ dotI s = -1) ∨ (0 ≤ fcc 46 ((bytesOf s).drop n) ∧ dotI s = fcc 46 ((bytesOf s).drop n) + n)) → Ev (fun k => spec_ReadDec.l0 k s neg (n : Int)) (readF neg s.size (leftS s) (rightS s)) := by
  have hend := spec_Read_j3_ev neg s hs
  intro d
  induction d with
  | zero =>
    intro n hn hi
    rw [bytes_drop_end s n (by omega)] at hi
    have hi2 : dotI s = -1 := by
      rcases hi with ⟨_, h⟩ | ⟨h, _⟩
      · exact h
      · exact absurd h (by decide)
    rw [if_pos (by omega)] at hend
    refine Ev.step (f := fun k => spec_ReadDec.j3 k s neg (s.size : Int)) (fun k => ?_) hend
    simp only [spec_ReadDec.l0]
    rw [if_neg (cast_nlt (by omega)), show n = s.size by omega]
  | succ d ih =>
    intro n hn hi
    have hfc : fcc 46 ((bytesOf s).drop n) = if bt s (n : Int) = 46 then 0 else if fcc 46 ((bytesOf s).drop (n + 1)) = -1 then -1 else fcc 46 ((bytesOf s).drop (n + 1)) + 1 := by
      rw [bytes_drop s n (by omega)]
      rfl
    by_cases c : bt s (n : Int) = 46
    · rw [if_pos c] at hfc
      have hi2 : dotI s = (n : Int) := by omega
      rw [if_neg (by omega), hi2] at hend
      refine Ev.step (f := fun k => spec_ReadDec.j3 k s neg (n : Int)) (fun k => ?_) hend
      simp only [spec_ReadDec.l0]
      rw [if_pos (cast_lt (by omega)), if_pos (by omega), if_pos c]
    · rw [if_neg c] at hfc
      refine Ev.step (fun k => ?_) (ih (n + 1) (by omega) (by
        have := fcc_range 46 ((bytesOf s).drop (n + 1))
        by_cases e : fcc 46 ((bytesOf s).drop (n + 1)) = -1
        · rw [if_pos e] at hfc
          exact .inl ⟨e, by omega⟩
        · rw [if_neg e] at hfc
          exact .inr ⟨by omega, by omega⟩))
      simp only [spec_ReadDec.l0]
      rw [if_pos (cast_lt (by omega)), if_pos (by omega), if_neg c, wrap_succ (n := s.size) (by omega) (cast_lt (by omega)) (by omega)]
      rfl
theorem spec_Read_j1_ev (neg : Bool) (s : ByteArray) (hs : s.size ≤ 140737488351232) : Ev (fun k => spec_ReadDec.j1 k s neg) (readF neg s.size (leftS s) (rightS s)) := by
  refine Ev.step (fun k => rfl) (spec_Read_l0_ev neg s hs s.size 0 (by omega) ?_)
  rw [List.drop_zero]
  have := fcc_range 46 (bytesOf s)
  unfold dotI
  by_cases e : fcc 46 (bytesOf s) = -1
  · exact .inl ⟨e, e⟩
  · exact .inr ⟨by omega, by omega⟩
def signD (s : ByteArray) : Bool := decide (0 < s.size) && ((bt s 0 == 45) || (bt s 0 == 43))
def bodyD (s : ByteArray) : ByteArray := if signD s = true then s.extract 1 s.size else s
def readDecF (s : ByteArray) : DRes := readF (decide (0 < s.size) && (bt s 0 == 45)) (bodyD s).size (leftS (bodyD s)) (rightS (bodyD s))
theorem bodyD_size (s : ByteArray) : (bodyD s).size ≤ s.size := by
  unfold bodyD
  split
  · exact extract_le _ _ _
  · exact Nat.le_refl _
theorem spec_Read_j0_ev (s : ByteArray) (hs : s.size ≤ 140737488351232) : Ev (fun k => spec_ReadDec.j0 k s false (signD s)) (readDecF s) := by
  have hb := bodyD_size s
  unfold readDecF
  cases h : signD s with
  | true =>
    have h0 : 0 < s.size := by unfold signD at h; simp at h; exact h.1
    have hbd : bodyD s = s.extract 1 s.size := by unfold bodyD; rw [if_pos h]
    rw [hbd] at hb ⊢
    refine Ev.step (fun k => ?_) (spec_Read_j1_ev _ (s.extract 1 s.size) (by omega))
    simp only [spec_ReadDec.j0, if_true]
    rw [if_pos (by omega), if_pos (by omega), decide_eq_true h0, Bool.true_and]
  | false =>
    have hbd : bodyD s = s := by unfold bodyD; rw [h]; rfl
    have hn : (decide (0 < s.size) && (bt s 0 == 45)) = false := by
      unfold signD at h
      cases h1 : decide (0 < s.size)
      · rfl
      · rw [h1, Bool.true_and] at h
        rw [(Bool.or_eq_false_iff.1 h).1]
        rfl
    rw [hbd, hn]
    refine Ev.step (fun k => ?_) (spec_Read_j1_ev _ s hs)
    simp only [spec_ReadDec.j0, Bool.false_eq_true, if_false]
theorem spec_ReadDec_ev (s : ByteArray) (hs : s.size ≤ 140737488351232) : Ev (fun k => spec_ReadDec.f k s) (readDecF s) := by
  have h := spec_Read_j0_ev s hs
  unfold spec_ReadDec.f
  unfold signD at h
  by_cases h0 : 0 < s.size
  · have g2 : (0 < (s.size : Int)) = True := eq_true (by omega)
    simp only [gt_iff_lt, g2, if_true]
    rw [decide_eq_true h0, Bool.true_and] at h
    by_cases h1 : bt s 0 = 45
    · simp only [h1, if_true]
      rw [h1] at h
      exact h
    · simp only [h1, if_false]
      rw [beq_eq_false_iff_ne.2 h1, Bool.false_or] at h
      exact h
  · rw [decide_eq_false h0, Bool.false_and] at h
    have g2 : (0 < (s.size : Int)) = False := eq_false (by omega)
    simp only [gt_iff_lt, g2, if_false]
    exact h
theorem impl_Read_j1_ev (s b : ByteArray) (hs : b.size ≤ 140737488351232) (hbs : 0 < b.size → 0 < s.size) : Ev (fun k => impl_ReadDec.j1 k s b) (readF (decide (0 < s.size) && (bt s 0 == 45)) b.size (leftS b) (rightS b)) := by
  obtain ⟨bo, hcut⟩ := strings_Cut_dot b hs
  have hp := parts_size b
  unfold readF
  by_cases h : b.size > 180
  · rw [if_pos h]
    refine Ev.later fun k => ?_
    simp only [impl_ReadDec.j1, hcut, Option.bind_some]
    rw [if_pos (show (b.size : Int) > 180 by omega)]
    rfl
  rw [if_neg h]
  by_cases h0 : (leftS b ++ rightS b).size = 0
  · rw [if_pos h0]
    refine Ev.later fun k => ?_
    simp only [impl_ReadDec.j1, hcut, Option.bind_some]
    rw [if_neg (show ¬ (b.size : Int) > 180 by omega), if_pos (show (leftS b).size + (rightS b).size ≤ 9223372036854775807 by omega), if_pos (toList_nil.2 h0)]
    rfl
  rw [if_neg h0]
  have hb0 : 0 < b.size := by rw [ByteArray.size_append] at h0; omega
  have hs0 := hbs hb0
  rw [decide_eq_true hs0, Bool.true_and]
  cases hd : allD (leftS b ++ rightS b) with
  | false =>
    simp only [Bool.false_eq_true, if_false]
    refine Ev.later fun k => ?_
    simp only [impl_ReadDec.j1, hcut, Option.bind_some]
    rw [if_neg (show ¬ (b.size : Int) > 180 by omega), if_pos (show (leftS b).size + (rightS b).size ≤ 9223372036854775807 by omega), if_neg (fun h => h0 (toList_nil.1 h)), impl_isDigits_eq _ (by rw [ByteArray.size_append]; omega), Option.bind_some, hd]
    rfl
  | true =>
    simp only [if_true]
    refine Ev.step (f := fun k => (impl_made.f k (bt s 0 == 45) (leftS b ++ rightS b) ((rightS b).size : Int)).bind fun bt164 => (some (bt164.1, bt164.2.1, bt164.2.2.1, bt164.2.2.2))) (fun k => ?_) ?_
    · simp only [impl_ReadDec.j1, hcut, Option.bind_some]
      rw [if_neg (show ¬ (b.size : Int) > 180 by omega), if_pos (show (leftS b).size + (rightS b).size ≤ 9223372036854775807 by omega), if_neg (fun h => h0 (toList_nil.1 h)), impl_isDigits_eq _ (by rw [ByteArray.size_append]; omega), Option.bind_some, hd, if_pos rfl, if_pos (by omega)]
    · refine Ev.bind (impl_made_ev _ _ _ (by rw [ByteArray.size_append]; omega) (by omega) (by omega)) ?_
      exact Ev.now _
theorem impl_Read_j0_ev (s : ByteArray) (hs : s.size ≤ 140737488351232) : Ev (fun k => impl_ReadDec.j0 k s s (signD s)) (readDecF s) := by
  have hb := bodyD_size s
  unfold readDecF
  cases h : signD s with
  | true =>
    have h0 : 0 < s.size := by unfold signD at h; simp at h; exact h.1
    have hbd : bodyD s = s.extract 1 s.size := by unfold bodyD; rw [if_pos h]
    rw [hbd] at hb ⊢
    refine Ev.step (fun k => ?_) (impl_Read_j1_ev s (s.extract 1 s.size) (by omega) (fun _ => h0))
    simp only [impl_ReadDec.j0, if_true]
    rw [if_pos (by omega)]
  | false =>
    have hbd : bodyD s = s := by unfold bodyD; rw [h]; rfl
    rw [hbd]
    refine Ev.step (fun k => ?_) (impl_Read_j1_ev s s hs (fun h => h))
    simp only [impl_ReadDec.j0, Bool.false_eq_true, if_false]
theorem impl_ReadDec_ev (s : ByteArray) (hs : s.size ≤ 140737488351232) : Ev (fun k => impl_ReadDec.f k s) (readDecF s) := by
  have h := impl_Read_j0_ev s hs
  unfold impl_ReadDec.f
  unfold signD at h
  by_cases h0 : 0 < s.size
  · have g1 : (s.toList = []) = False := eq_false (fun h => by have := toList_nil.1 h; omega)
    have g2 : (0 < (s.size : Int)) = True := eq_true (by omega)
    simp only [g1, g2, if_true, if_false]
    rw [decide_eq_true h0, Bool.true_and] at h
    by_cases h1 : bt s 0 = 43
    · simp only [h1, if_true]
      rw [h1] at h
      exact h
    · simp only [h1, if_false]
      rw [beq_eq_false_iff_ne.2 h1, Bool.or_false] at h
      exact h
  · rw [decide_eq_false h0, Bool.false_and] at h
    have g1 : (s.toList = []) = True := eq_true (toList_nil.2 (by omega))
    simp only [g1, if_true]
    exact h
end Go.Proofs.YtaliphegdclkfaaDoor.PN
