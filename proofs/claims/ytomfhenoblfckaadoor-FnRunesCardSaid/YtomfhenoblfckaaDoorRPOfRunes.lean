import Derived.Test.YtomfhenoblfckaaDoorPRx1
import Derived.Test.YtomfhenoblfckaaDoorPRx3
import Derived.Test.YtomfhenoblfckaaDoorPRx4
import Derived.Test.YtomfhenoblfckaaDoorRPBase
import Derived.Test.YtomfhenoblfckaaDoorRPIn
import Derived.Laws.BitsLemmas
namespace Go.Proofs.YtomfhenoblfckaaDoor.PR
open Go.RowKit Go.Proofs.YtomfhenoblfckaaDoorW.PrintWords
set_option linter.unusedVariables false
set_option linter.unusedSimpArgs false
/- Characters and their bytes. -/
def isChar (r : Int) : Bool := inR r 0 55295 || inR r 57344 1114111
theorem spec_l1Char_eq (r : Int) : spec_l1Char.f r = some (isChar r) := by
  unfold spec_l1Char.f isChar
  simp only [spec_l1In_eq, Option.bind_some]
  cases inR r 0 55295 <;> simp
theorem impl_isRune_eq (r : Int) : impl_isRune.f r = some (isChar r) := by
  unfold impl_isRune.f isChar
  simp only [impl_in_eq, Option.bind_some]
  cases inR r 0 55295 <;> simp
theorem isChar_range {r : Int} (h : isChar r = true) : (0 ≤ r ∧ r ≤ 55295) ∨ (57344 ≤ r ∧ r ≤ 1114111) := by
  unfold isChar inR at h
  simpa using h
def enc (r : Int) : List Int := if r < 128 then [r] else if r < 2048 then [192 + r / 64, 128 + r % 64] else if r < 65536 then [224 + r / 4096, 128 + r / 64 % 64, 128 + r % 64] else [240 + r / 262144, 128 + r / 4096 % 64, 128 + r / 64 % 64, 128 + r % 64]
theorem enc_range {r : Int} (h : isChar r = true) : ∀ x ∈ enc r, 0 ≤ x ∧ x < 256 := by
  have hr := isChar_range h
  unfold enc
  repeat' split
  all_goals (intro x hx; simp only [List.mem_cons, List.not_mem_nil, or_false] at hx; omega)
theorem enc_length (r : Int) : 1 ≤ (enc r).length ∧ (enc r).length ≤ 4 := by
  unfold enc
  repeat' split
  all_goals simp
theorem spec_l1Bytes_eq {r : Int} (h : isChar r = true) : spec_l1Bytes.f r = some (strOfNums (enc r)) := by
  have hr := isChar_range h
  unfold spec_l1Bytes.f enc
  have t1 : Int.tdiv r 64 = r / 64 := Int.tdiv_eq_ediv_of_nonneg (by omega)
  have t2 : Int.tmod r 64 = r % 64 := Int.tmod_eq_emod_of_nonneg (by omega)
  have t3 : Int.tdiv r 4096 = r / 4096 := Int.tdiv_eq_ediv_of_nonneg (by omega)
  have t4 : Int.tdiv r 262144 = r / 262144 := Int.tdiv_eq_ediv_of_nonneg (by omega)
  have w1 : wrap64 (r / 64) = r / 64 := w64 (by omega) (by omega)
  have w3 : wrap64 (r / 4096) = r / 4096 := w64 (by omega) (by omega)
  have w4 : wrap64 (r / 262144) = r / 262144 := w64 (by omega) (by omega)
  have t5 : Int.tmod (r / 64) 64 = r / 64 % 64 := Int.tmod_eq_emod_of_nonneg (by omega)
  have t6 : Int.tmod (r / 4096) 64 = r / 4096 % 64 := Int.tmod_eq_emod_of_nonneg (by omega)
  simp only [t1, t2, t3, t4, w1, w3, w4, t5, t6]
  by_cases c1 : r < 128
  · simp only [c1, if_true]
    congr 3
    omega
  simp only [c1, if_false]
  by_cases c2 : r < 2048
  · simp only [c2, if_true]
    rw [w64 (x := 192 + r / 64) (by omega) (by omega), w64 (x := 128 + r % 64) (by omega) (by omega), show (192 + r / 64) % 256 = 192 + r / 64 by omega, show (128 + r % 64) % 256 = 128 + r % 64 by omega]
  simp only [c2, if_false]
  by_cases c3 : r < 65536
  · simp only [c3, if_true]
    rw [w64 (x := 224 + r / 4096) (by omega) (by omega), w64 (x := 128 + r / 64 % 64) (by omega) (by omega), w64 (x := 128 + r % 64) (by omega) (by omega), show (224 + r / 4096) % 256 = 224 + r / 4096 by omega, show (128 + r / 64 % 64) % 256 = 128 + r / 64 % 64 by omega, show (128 + r % 64) % 256 = 128 + r % 64 by omega]
  simp only [c3, if_false]
  rw [w64 (x := 240 + r / 262144) (by omega) (by omega), w64 (x := 128 + r / 4096 % 64) (by omega) (by omega), w64 (x := 128 + r / 64 % 64) (by omega) (by omega), w64 (x := 128 + r % 64) (by omega) (by omega), show (240 + r / 262144) % 256 = 240 + r / 262144 by omega, show (128 + r / 4096 % 64) % 256 = 128 + r / 4096 % 64 by omega, show (128 + r / 64 % 64) % 256 = 128 + r / 64 % 64 by omega, show (128 + r % 64) % 256 = 128 + r % 64 by omega]
theorem or192 {y : Int} (h0 : 0 ≤ y) (h : y < 32) : Go.bits .or .u8 192 y = 192 + y := bits_join .u8 8 (by decide) wraps_u8 5 192 y (by decide) (by decide) (by decide) h0 (by simpa using h) (by omega)
theorem or224 {y : Int} (h0 : 0 ≤ y) (h : y < 16) : Go.bits .or .u8 224 y = 224 + y := bits_join .u8 8 (by decide) wraps_u8 4 224 y (by decide) (by decide) (by decide) h0 (by simpa using h) (by omega)
theorem or240 {y : Int} (h0 : 0 ≤ y) (h : y < 8) : Go.bits .or .u8 240 y = 240 + y := bits_join .u8 8 (by decide) wraps_u8 3 240 y (by decide) (by decide) (by decide) h0 (by simpa using h) (by omega)
theorem utf8_AppendRune_at (k : Nat) (l : List Int) (hl : l.length ≤ 100000) {r : Int} (h : isChar r = true) : utf8_AppendRune.f (k + 1) l r = some (l ++ enc r) := by
  have hr := isChar_range h
  have e0 : r % 4294967296 = r := by omega
  unfold utf8_AppendRune.f enc
  rw [e0]
  by_cases c1 : r ≤ 127
  · rw [if_pos c1, if_pos (by omega), if_pos (by omega), show r % 256 = r by omega]
  rw [if_neg c1, if_neg (by omega)]
  unfold utf8_appendRuneNonASCII.f
  rw [e0]
  by_cases c2 : r ≤ 2047
  · rw [if_pos c2, if_pos (show r < 2048 by omega)]
    simp only [Option.bind_some]
    rw [if_pos (by simp; omega), show r / 64 % 256 = r / 64 by omega, or192 (by omega) (by omega)]
    rfl
  rw [if_neg c2, if_neg (show ¬ r < 2048 by omega)]
  have three : utf8_appendRuneNonASCII.j0 (k + 1) l r r true = some (l ++ [224 + r / 4096 % 256 % 16, 128 + r / 64 % 64, 128 + r % 64]) ∨ 65536 ≤ r := by
    by_cases c3 : r < 65536
    · left
      simp only [utf8_appendRuneNonASCII.j0, if_true, Option.bind_some]
      rw [if_pos (by simp; omega), show r / 4096 % 256 = r / 4096 by omega, or224 (by omega) (by omega), show r / 4096 % 16 = r / 4096 by omega]
    · right; omega
  by_cases c4 : r < 55296
  · rw [if_pos c4, if_pos (show r < 65536 by omega), decide_eq_true c4]
    rcases three with h3 | h3
    · rw [h3]
      simp only [Option.bind_some]
      rw [show r / 4096 % 256 % 16 = r / 4096 by omega]
    · omega
  rw [if_neg c4, if_pos (show 57343 < r by omega)]
  by_cases c5 : r ≤ 65535
  · rw [if_pos (show r < 65536 by omega), decide_eq_true c5]
    rcases three with h3 | h3
    · rw [h3]
      simp only [Option.bind_some]
      rw [show r / 4096 % 256 % 16 = r / 4096 by omega]
    · omega
  rw [if_neg (show ¬ r < 65536 by omega), decide_eq_false c5]
  simp only [utf8_appendRuneNonASCII.j0, Bool.false_eq_true, if_false]
  rw [if_pos (show r > 65535 by omega), if_pos (show r ≤ 1114111 by omega)]
  simp only [Option.bind_some]
  rw [if_pos (by simp; omega), show r / 262144 % 256 = r / 262144 by omega, or240 (by omega) (by omega)]
  rfl
def noText : ByteArray × Bool := ((⟨#[]⟩ : ByteArray), false)
/-- What both OfRunes come to, behind the bytes 'acc'. -/
def ofR : List Int → List Int → ByteArray × Bool
  | [], acc => if (acc.length : Int) > 20000 then noText else (strOfNums acc, true)
  | r :: l, acc => if isChar r = true then (if (acc.length : Int) > 20000 then noText else ofR l (acc ++ enc r)) else noText
theorem ofR_long : ∀ (l acc : List Int), (acc.length : Int) > 20000 → ofR l acc = noText
  | [], acc, h => by simp only [ofR]; rw [if_pos h]
  | r :: l, acc, h => by
    simp only [ofR]
    split
    · first | rfl | rw [if_pos h]
    · rfl
theorem spec_OfRunes_l0_ev (l : List Int) (hl : l.length ≤ 35184372088832) : ∀ (d n : Nat) (acc : List Int), n + d = l.length → acc.length ≤ 20000 → Ev (fun k => spec_OfRunes.l0 k l acc (n : Int)) (ofR (l.drop n) acc) := by
  intro d
  induction d with
  | zero =>
    intro n acc hn ha
    rw [List.drop_eq_nil_of_le (by omega)]
    refine Ev.later fun k => ?_
    simp only [spec_OfRunes.l0, ofR]
    rw [if_neg (cast_nlt (by omega)), if_neg (by omega)]
  | succ d ih =>
    intro n acc hn ha
    rw [list_drop l n (by omega), ofR]
    refine Ev.step (f := fun k => if isChar (rd l n) = true then (if ((acc ++ enc (rd l n)).length : Int) > 20000 then some noText else spec_OfRunes.l0 k l (acc ++ enc (rd l n)) ((n + 1 : Nat) : Int)) else some noText) (fun k => ?_) ?_
    · simp only [spec_OfRunes.l0]
      rw [if_pos (cast_lt (by omega)), if_pos (by omega), spec_l1Char_eq, Option.bind_some, wrap_succ (n := l.length) (by omega) (cast_lt (by omega)) (by omega)]
      by_cases c : isChar (rd l n) = true
      · have he := enc_length (rd l n)
        rw [if_pos c, if_pos c, spec_l1Bytes_eq c, Option.bind_some, if_pos (by rw [strOfNums_size]; omega), Option.bind_some, bytes_of_nums _ (enc_range c)]
        rfl
      · rw [if_neg c, if_neg c]
        rfl
    · by_cases c : isChar (rd l n) = true
      · simp only [c, if_true]
        rw [if_neg (show ¬ ((acc.length : Int) > 20000) by omega)]
        by_cases c2 : ((acc ++ enc (rd l n)).length : Int) > 20000
        · simp only [c2, if_true]
          rw [ofR_long _ _ c2]
          exact Ev.now _
        · simp only [c2, if_false]
          exact ih (n + 1) _ (by omega) (by omega)
      · simp only [c, if_false]
        exact Ev.now _
theorem spec_OfRunes_ev (l : List Int) (hl : l.length ≤ 35184372088832) : Ev (fun k => spec_OfRunes.f k l) (ofR l []) := by
  unfold spec_OfRunes.f
  exact spec_OfRunes_l0_ev l hl l.length 0 [] (by omega) (by simp)
theorem impl_OfRunes_l0_ev (l : List Int) (hl : l.length ≤ 35184372088832) : ∀ (d n : Nat) (acc : List Int), n + d = l.length → acc.length ≤ 20004 → Ev (fun k => impl_OfRunes.l0 k acc l (l.length : Int) (n : Int)) (ofR (l.drop n) acc) := by
  intro d
  induction d with
  | zero =>
    intro n acc hn ha
    rw [List.drop_eq_nil_of_le (by omega)]
    refine Ev.later fun k => ?_
    simp only [impl_OfRunes.l0, ofR]
    rw [if_neg (cast_nlt (by omega))]
    split <;> rfl
  | succ d ih =>
    intro n acc hn ha
    rw [list_drop l n (by omega), ofR]
    by_cases c : isChar (rd l n) = true
    · by_cases c2 : (acc.length : Int) > 20000
      · refine Ev.later fun k => ?_
        simp only [impl_OfRunes.l0]
        rw [if_pos (cast_lt (by omega)), if_pos (by omega), if_pos (cast_lt (by omega)), impl_isRune_eq, Option.bind_some, if_pos c, if_pos c2, if_pos c, if_pos c2]
        rfl
      · rw [if_pos c, if_neg c2]
        have he := enc_length (rd l n)
        have hw : wrap32 (rd l n) = rd l n := by
          have := isChar_range c
          unfold wrap32
          omega
        have step := ih (n + 1) (acc ++ enc (rd l n)) (by omega) (by rw [List.length_append]; omega)
        refine Ev.step (f := fun k => (utf8_AppendRune.f k acc (rd l n)).bind fun t => impl_OfRunes.l0 k t l (l.length : Int) ((n + 1 : Nat) : Int)) (fun k => ?_) ?_
        · simp only [impl_OfRunes.l0]
          rw [if_pos (cast_lt (by omega)), if_pos (by omega), if_pos (cast_lt (by omega)), impl_isRune_eq, Option.bind_some, if_pos c, if_neg c2, hw, wrap_succ (n := l.length) (by omega) (cast_lt (by omega)) (by omega)]
          rfl
        · exact Ev.bind (Ev.later fun k => utf8_AppendRune_at k acc (by omega) c) step
    · refine Ev.later fun k => ?_
      simp only [impl_OfRunes.l0]
      rw [if_pos (cast_lt (by omega)), if_pos (by omega), if_pos (cast_lt (by omega)), impl_isRune_eq, Option.bind_some, if_neg c, if_neg c]
      rfl
theorem impl_OfRunes_ev (l : List Int) (hl : l.length ≤ 35184372088832) : Ev (fun k => impl_OfRunes.f k l) (ofR l []) := by
  unfold impl_OfRunes.f
  exact impl_OfRunes_l0_ev l hl l.length 0 [] (by omega) (by simp)
end Go.Proofs.YtomfhenoblfckaaDoor.PR
