/- A text's characters: the reference's own reading of its bytes and the decoder's come to the same. -/
import Derived.Test.YtomfhenoblfckaaDoorPTx1
import Derived.Test.YtomfhenoblfckaaDoorPTx2
import Derived.Test.YtomfhenoblfckaaDoorTPBase
import Derived.Test.YtomfhenoblfckaaDoorTPIn
import Derived.Lib.ValidU
import Derived.Lib.TrimUEq
import Derived.Lib.MapLaws
namespace Go.Proofs.YtomfhenoblfckaaDoor.PT
open Go.RowKit Go.Proofs.YtomfhenoblfckaaDoorW.PrintWords
set_option linter.unusedVariables false
set_option linter.unusedSimpArgs false
theorem l1Char_at (r : Int) : spec_l1Char.f r = some (decide ((0 ≤ r ∧ r ≤ 55295) ∨ (57344 ≤ r ∧ r ≤ 1114111))) := by
  unfold spec_l1Char.f
  simp only [spec_l1In_eq, Option.bind_some, inR]
  by_cases c : 0 ≤ r ∧ r ≤ 55295
  · rw [decide_eq_true c, if_pos rfl, decide_eq_true (Or.inl c)]
  · rw [decide_eq_false c, if_neg (by decide)]
    congr 1
    by_cases d : 57344 ≤ r ∧ r ≤ 1114111
    · rw [decide_eq_true d, decide_eq_true (Or.inr d)]
    · rw [decide_eq_false d, decide_eq_false (fun h => h.elim c d)]
theorem l1_step (k : Nat) (t : ByteArray) (x4 x5 x6 i : Int) (hi : i < x5) (h0 : 0 ≤ i) (hs : i < t.size) (hc : 128 ≤ bt t i ∧ bt t i < 192) (hx : 0 ≤ x4 ∧ x4 ≤ 100000000) (h5 : x5 ≤ 4) : spec_l1Rune.l0 (k + 1) t x4 x5 x6 i = spec_l1Rune.l0 k t (64 * x4 + bt t i % 64) x5 x6 (i + 1) := by
  simp only [spec_l1Rune.l0]
  rw [if_pos hi, if_pos h0, if_pos hs, if_neg (by omega), if_neg (by omega), Int.tmod_eq_emod_of_nonneg (by omega), w64 (x := 64 * x4) (by omega) (by omega), w64 (x := bt t i % 64) (by omega) (by omega), w64 (x := 64 * x4 + bt t i % 64) (by omega) (by omega), w64 (x := i + 1) (by omega) (by omega)]
theorem l1_bad (k : Nat) (t : ByteArray) (x4 x5 x6 i : Int) (hi : i < x5) (h0 : 0 ≤ i) (hs : i < t.size) (hc : ¬ (128 ≤ bt t i ∧ bt t i < 192)) : spec_l1Rune.l0 (k + 1) t x4 x5 x6 i = some (0, 0) := by
  simp only [spec_l1Rune.l0]
  rw [if_pos hi, if_pos h0, if_pos hs]
  by_cases c : bt t i < 128
  · rw [if_pos c]
  · rw [if_neg c, if_pos (by omega)]
theorem l1_end (k : Nat) (t : ByteArray) (x4 x5 x6 i : Int) (hi : ¬ i < x5) : spec_l1Rune.l0 (k + 1) t x4 x5 x6 i = some (if ¬ x4 < x6 ∧ ((0 ≤ x4 ∧ x4 ≤ 55295) ∨ (57344 ≤ x4 ∧ x4 ≤ 1114111)) then (x4, x5) else (0, 0)) := by
  simp only [spec_l1Rune.l0]
  rw [if_neg hi]
  by_cases c : x4 < x6
  · rw [if_pos c, if_neg (fun h => h.1 c)]
  · rw [if_neg c, l1Char_at, Option.bind_some]
    by_cases d : (0 ≤ x4 ∧ x4 ≤ 55295) ∨ (57344 ≤ x4 ∧ x4 ≤ 1114111)
    · rw [decide_eq_true d, if_pos rfl, if_pos ⟨c, d⟩]
    · rw [decide_eq_false d, if_neg (by decide), if_neg (fun h => d h.2)]
theorem decN2 {n b0 b1 b2 b3 : Nat} (h : 192 ≤ b0 ∧ b0 < 224) : Lib.decodeN n b0 b1 b2 b3 = if (1 < n ∧ b1 / 64 = 2) ∧ b0 % 32 * 64 + b1 % 64 ≥ 128 then (b0 % 32 * 64 + b1 % 64, 2) else (65533, 1) := by
  unfold Lib.decodeN
  rw [if_neg (by omega)]
  by_cases c : 1 < n ∧ b1 / 64 = 2
  · rw [if_pos ⟨by omega, c⟩]
    by_cases d : b0 % 32 * 64 + b1 % 64 ≥ 128
    · rw [if_pos d, if_pos ⟨c, d⟩]
    · rw [if_neg d, if_neg (fun h => d h.2)]
  · rw [if_neg (fun x => c x.2), if_neg (fun x => by have := x.1; omega), if_neg (fun x => by have := x.1; omega), if_neg (fun x => c x.1)]
theorem decN3 {n b0 b1 b2 b3 : Nat} (h : 224 ≤ b0 ∧ b0 < 240) : Lib.decodeN n b0 b1 b2 b3 = if ((1 < n ∧ b1 / 64 = 2) ∧ (2 < n ∧ b2 / 64 = 2)) ∧ (b0 % 16 * 4096 + b1 % 64 * 64 + b2 % 64 ≥ 2048 ∧ (b0 % 16 * 4096 + b1 % 64 * 64 + b2 % 64 < 55296 ∨ (57344 ≤ b0 % 16 * 4096 + b1 % 64 * 64 + b2 % 64 ∧ b0 % 16 * 4096 + b1 % 64 * 64 + b2 % 64 ≤ 1114111))) then (b0 % 16 * 4096 + b1 % 64 * 64 + b2 % 64, 3) else (65533, 1) := by
  unfold Lib.decodeN
  rw [if_neg (by omega), if_neg (fun x => by have := x.1; omega)]
  by_cases c : (1 < n ∧ b1 / 64 = 2) ∧ (2 < n ∧ b2 / 64 = 2)
  · rw [if_pos ⟨by omega, c⟩]
    by_cases d : b0 % 16 * 4096 + b1 % 64 * 64 + b2 % 64 ≥ 2048 ∧ (b0 % 16 * 4096 + b1 % 64 * 64 + b2 % 64 < 55296 ∨ (57344 ≤ b0 % 16 * 4096 + b1 % 64 * 64 + b2 % 64 ∧ b0 % 16 * 4096 + b1 % 64 * 64 + b2 % 64 ≤ 1114111))
    · rw [if_pos d, if_pos ⟨c, d⟩]
    · rw [if_neg d, if_neg (fun h => d h.2)]
  · rw [if_neg (fun x => c x.2), if_neg (fun x => by have := x.1; omega), if_neg (fun x => c x.1)]
theorem decN4 {n b0 b1 b2 b3 : Nat} (h : 240 ≤ b0 ∧ b0 < 248) : Lib.decodeN n b0 b1 b2 b3 = if ((1 < n ∧ b1 / 64 = 2) ∧ (2 < n ∧ b2 / 64 = 2) ∧ (3 < n ∧ b3 / 64 = 2)) ∧ (b0 % 8 * 262144 + b1 % 64 * 4096 + b2 % 64 * 64 + b3 % 64 ≥ 65536 ∧ (b0 % 8 * 262144 + b1 % 64 * 4096 + b2 % 64 * 64 + b3 % 64 < 55296 ∨ (57344 ≤ b0 % 8 * 262144 + b1 % 64 * 4096 + b2 % 64 * 64 + b3 % 64 ∧ b0 % 8 * 262144 + b1 % 64 * 4096 + b2 % 64 * 64 + b3 % 64 ≤ 1114111))) then (b0 % 8 * 262144 + b1 % 64 * 4096 + b2 % 64 * 64 + b3 % 64, 4) else (65533, 1) := by
  unfold Lib.decodeN
  rw [if_neg (by omega), if_neg (fun x => by have := x.1; omega), if_neg (fun x => by have := x.1; omega)]
  by_cases c : (1 < n ∧ b1 / 64 = 2) ∧ (2 < n ∧ b2 / 64 = 2) ∧ (3 < n ∧ b3 / 64 = 2)
  · rw [if_pos ⟨by omega, c⟩]
    by_cases d : b0 % 8 * 262144 + b1 % 64 * 4096 + b2 % 64 * 64 + b3 % 64 ≥ 65536 ∧ (b0 % 8 * 262144 + b1 % 64 * 4096 + b2 % 64 * 64 + b3 % 64 < 55296 ∨ (57344 ≤ b0 % 8 * 262144 + b1 % 64 * 4096 + b2 % 64 * 64 + b3 % 64 ∧ b0 % 8 * 262144 + b1 % 64 * 4096 + b2 % 64 * 64 + b3 % 64 ≤ 1114111))
    · rw [if_pos d, if_pos ⟨c, d⟩]
    · rw [if_neg d, if_neg (fun h => d h.2)]
  · rw [if_neg (fun x => c x.2), if_neg (fun x => c x.1)]
theorem decN0 {n b0 b1 b2 b3 : Nat} (h1 : 128 ≤ b0) (h2 : b0 < 192 ∨ 248 ≤ b0) (h3 : b0 < 256) : Lib.decodeN n b0 b1 b2 b3 = (65533, 1) := by
  unfold Lib.decodeN
  rw [if_neg (by omega), if_neg (fun x => by have := x.1; omega), if_neg (fun x => by have := x.1; omega), if_neg (fun x => by have := x.1; omega)]
/-- What the reference makes of a decoded one: nothing where the decoder says that there is none. -/
def outR (p : Nat × Nat) : Int × Int := if p.1 = 65533 ∧ p.2 = 1 then (0, 0) else ((p.1 : Int), (p.2 : Int))
theorem outR_bad : outR (65533, 1) = (0, 0) := by simp [outR]
theorem outR_ne {a b : Nat} (h : b ≠ 1) : outR (a, b) = ((a : Int), (b : Int)) := by simp [outR, h]
theorem l1Rune_num (t : ByteArray) (n b0 b1 b2 b3 : Nat) (hn : t.size = n) (h0 : 0 < n) (e0 : bt t 0 = b0) (e1 : bt t 1 = b1) (e2 : bt t 2 = b2) (e3 : bt t 3 = b3) (g0 : b0 < 256) (g1 : b1 < 256) (g2 : b2 < 256) (g3 : b3 < 256) (k : Nat) :
    spec_l1Rune.f (k + 8) t = some (outR (Lib.decodeN n b0 b1 b2 b3)) := by
  have hne : ¬ t.toList = ([] : List UInt8) := by
    intro e
    rw [toList_eq'] at e
    have := congrArg List.length e
    rw [data_length, List.length_nil] at this
    omega
  unfold spec_l1Rune.f
  rw [if_neg hne, if_pos (by omega), e0, w64 (x := (b0 : Int)) (by omega) (by omega)]
  by_cases c1 : b0 < 128
  · rw [if_pos (by omega)]
    unfold Lib.decodeN
    rw [if_pos c1]
    simp [outR, show b0 ≠ 65533 by omega]
  rw [if_neg (by omega)]
  by_cases c2 : 192 ≤ b0
  · rw [if_pos (by omega)]
    by_cases c3 : b0 < 224
    · rw [decide_eq_true (by omega), decN2 ⟨c2, c3⟩]
      rw [spec_l1Rune.j0, if_pos rfl, spec_l1Rune.j2, Int.tmod_eq_emod_of_nonneg (by omega)]
      by_cases d : 1 < n
      · rw [if_neg (by omega)]
        by_cases f : b1 / 64 = 2
        · rw [l1_step _ t _ _ _ 1 (by omega) (by omega) (by omega) (by omega) (by omega) (by omega), l1_end _ t _ _ _ _ (by omega), e1]
          by_cases g : b0 % 32 * 64 + b1 % 64 ≥ 128
          · rw [if_pos (by omega), if_pos ⟨⟨d, f⟩, g⟩, outR_ne (by decide)]
            congr 2
            omega
          · rw [if_neg (by omega), if_neg (fun h => g h.2), outR_bad]
        · rw [l1_bad _ t _ _ _ 1 (by omega) (by omega) (by omega) (by omega), if_neg (fun h => f h.1.2), outR_bad]
      · rw [if_pos (by omega), if_neg (fun h => d h.1.1), outR_bad]
    rw [decide_eq_false (by omega)]
    rw [spec_l1Rune.j0, if_neg (by decide), if_pos (by omega)]
    by_cases c4 : b0 < 240
    · rw [decide_eq_true (by omega), decN3 ⟨by omega, c4⟩]
      rw [spec_l1Rune.j1, if_pos rfl, spec_l1Rune.j2, Int.tmod_eq_emod_of_nonneg (by omega)]
      by_cases d : 2 < n
      · rw [if_neg (by omega)]
        by_cases f : b1 / 64 = 2
        · rw [l1_step _ t _ _ _ 1 (by omega) (by omega) (by omega) (by omega) (by omega) (by omega)]
          simp only [Int.reduceAdd]
          by_cases f2 : b2 / 64 = 2
          · rw [l1_step _ t _ _ _ 2 (by omega) (by omega) (by omega) (by omega) (by omega) (by omega), l1_end _ t _ _ _ _ (by omega), e1, e2]
            by_cases g : b0 % 16 * 4096 + b1 % 64 * 64 + b2 % 64 ≥ 2048 ∧ (b0 % 16 * 4096 + b1 % 64 * 64 + b2 % 64 < 55296 ∨ (57344 ≤ b0 % 16 * 4096 + b1 % 64 * 64 + b2 % 64 ∧ b0 % 16 * 4096 + b1 % 64 * 64 + b2 % 64 ≤ 1114111))
            · rw [if_pos (by omega), if_pos ⟨⟨⟨by omega, f⟩, d, f2⟩, g⟩, outR_ne (by decide)]
              congr 2
              omega
            · rw [if_neg (by omega), if_neg (fun h => g h.2), outR_bad]
          · rw [l1_bad _ t _ _ _ 2 (by omega) (by omega) (by omega) (by omega), if_neg (fun h => f2 h.1.2.2), outR_bad]
        · rw [l1_bad _ t _ _ _ 1 (by omega) (by omega) (by omega) (by omega), if_neg (fun h => f h.1.1.2), outR_bad]
      · rw [if_pos (by omega), if_neg (fun h => d h.1.2.1), outR_bad]
    rw [decide_eq_false (by omega)]
    rw [spec_l1Rune.j1, if_neg (by decide), if_pos (by omega)]
    by_cases c5 : b0 < 248
    · rw [if_pos (by omega), decN4 ⟨by omega, c5⟩]
      rw [spec_l1Rune.j2, Int.tmod_eq_emod_of_nonneg (by omega)]
      by_cases d : 3 < n
      · rw [if_neg (by omega)]
        by_cases f : b1 / 64 = 2
        · rw [l1_step _ t _ _ _ 1 (by omega) (by omega) (by omega) (by omega) (by omega) (by omega)]
          simp only [Int.reduceAdd]
          by_cases f2 : b2 / 64 = 2
          · rw [l1_step _ t _ _ _ 2 (by omega) (by omega) (by omega) (by omega) (by omega) (by omega)]
            simp only [Int.reduceAdd]
            by_cases f3 : b3 / 64 = 2
            · rw [l1_step _ t _ _ _ 3 (by omega) (by omega) (by omega) (by omega) (by omega) (by omega), l1_end _ t _ _ _ _ (by omega), e1, e2, e3]
              by_cases g : b0 % 8 * 262144 + b1 % 64 * 4096 + b2 % 64 * 64 + b3 % 64 ≥ 65536 ∧ (b0 % 8 * 262144 + b1 % 64 * 4096 + b2 % 64 * 64 + b3 % 64 < 55296 ∨ (57344 ≤ b0 % 8 * 262144 + b1 % 64 * 4096 + b2 % 64 * 64 + b3 % 64 ∧ b0 % 8 * 262144 + b1 % 64 * 4096 + b2 % 64 * 64 + b3 % 64 ≤ 1114111))
              · rw [if_pos (by omega), if_pos ⟨⟨⟨by omega, f⟩, ⟨by omega, f2⟩, d, f3⟩, g⟩, outR_ne (by decide)]
                congr 2
                omega
              · rw [if_neg (by omega), if_neg (fun h => g h.2), outR_bad]
            · rw [l1_bad _ t _ _ _ 3 (by omega) (by omega) (by omega) (by omega), if_neg (fun h => f3 h.1.2.2.2), outR_bad]
          · rw [l1_bad _ t _ _ _ 2 (by omega) (by omega) (by omega) (by omega), if_neg (fun h => f2 h.1.2.1.2), outR_bad]
        · rw [l1_bad _ t _ _ _ 1 (by omega) (by omega) (by omega) (by omega), if_neg (fun h => f h.1.1.2), outR_bad]
      · rw [if_pos (by omega), if_neg (fun h => d h.1.2.2.1), outR_bad]
    · rw [if_neg (by omega), decN0 (by omega) (by omega) g0, outR_bad]
  · rw [if_neg (by omega), decN0 (by omega) (by omega) g0, outR_bad]
    rw [spec_l1Rune.j0, if_neg (by decide), if_neg (by omega), spec_l1Rune.j1, if_neg (by decide), if_neg (by omega)]
theorem bt_getD (t : ByteArray) (i : Nat) : bt t (i : Int) = ((t.data.toList.getD i 0).toNat : Int) := by
  rw [← rd_bytesOf]
  unfold rd bytesOf
  simp only [Int.toNat_natCast, List.getD_eq_getElem?_getD, List.getElem?_map]
  cases t.data.toList[i]? <;> rfl
theorem l1Rune_ev (t : ByteArray) (h : t.data.toList ≠ []) : Ev (fun k => spec_l1Rune.f k t) (outR (Lib.decodeL t.data.toList)) := by
  refine ⟨8, fun k hk => ?_⟩
  obtain ⟨m, rfl⟩ : ∃ m, k = m + 8 := ⟨k - 8, by omega⟩
  rw [Lib.decodeL_N]
  have hl := List.length_pos_iff.2 h
  exact l1Rune_num t _ _ _ _ _ (by rw [data_length]) hl (bt_getD t 0) (bt_getD t 1) (bt_getD t 2) (bt_getD t 3) (UInt8.toNat_lt _) (UInt8.toNat_lt _) (UInt8.toNat_lt _) (UInt8.toNat_lt _) m
theorem drop_extract (t : ByteArray) (n : Nat) : (t.extract n t.size).data.toList = t.data.toList.drop n := by
  rw [Lib.extract_data, List.take_of_length_le]
  rw [List.length_drop, data_length]
  omega
/-- What both Runes come to: what is read so far, and the rest. -/
def runesR (l : List UInt8) (acc : List Int) : List Int × Bool := if Lib.validGoD l.length l = true then (acc ++ impl_Runes.from l.length l, true) else ([], false)
theorem valid_fuel : ∀ (n : Nat) (l : List UInt8) (m : Nat), l.length ≤ n → l.length ≤ m → Lib.validGoD n l = Lib.validGoD m l ∧ impl_Runes.from n l = impl_Runes.from m l := by
  intro n
  induction n with
  | zero =>
    intro l m hn hm
    obtain rfl : l = [] := List.length_eq_zero_iff.1 (by omega)
    cases m <;> simp [Lib.validGoD, impl_Runes.from]
  | succ n ih =>
    intro l m hn hm
    cases m with
    | zero =>
      obtain rfl : l = [] := List.length_eq_zero_iff.1 (by omega)
      simp [Lib.validGoD, impl_Runes.from]
    | succ m =>
      by_cases e : l = []
      · subst e
        simp [Lib.validGoD, impl_Runes.from]
      · have hw := Lib.decodeL_width l
        have hl := List.length_pos_iff.2 e
        have h := ih (l.drop (Lib.decodeL l).2) m (by rw [List.length_drop]; omega) (by rw [List.length_drop]; omega)
        simp only [Lib.validGoD, impl_Runes.from, if_neg e, h.1, h.2, and_self]
theorem spec_Runes_l0_ev : ∀ (n : Nat) (t : ByteArray) (acc : List Int), t.size ≤ n → acc.length + t.size ≤ 100000 → Ev (fun k => spec_Runes.l0 k t acc) (runesR t.data.toList acc) := by
  intro n
  induction n with
  | zero =>
    intro t acc hn hl
    have e : t.data.toList = [] := List.length_eq_zero_iff.1 (by rw [data_length]; omega)
    refine Ev.later fun k => ?_
    simp only [spec_Runes.l0]
    rw [if_pos (by rw [toList_eq']; exact e), e]
    simp [runesR, Lib.validGoD, impl_Runes.from]
  | succ n ih =>
    intro t acc hn hl
    by_cases e : t.data.toList = []
    · refine Ev.later fun k => ?_
      simp only [spec_Runes.l0]
      rw [if_pos (by rw [toList_eq']; exact e), e]
      simp [runesR, Lib.validGoD, impl_Runes.from]
    · have hsz : 0 < t.size := by
        have := List.length_pos_iff.2 e
        rw [data_length] at this
        exact this
      have hw := Lib.decodeL_width t.data.toList
      have hle := Lib.decodeL_le t.data.toList e
      rw [data_length] at hle
      refine Ev.step (f := fun k => (spec_l1Rune.f k t).bind fun bt107 => (if bt107.2 = 0 then (some (([] : List Int), false)) else (if acc.length < 17592186044416 then (if 0 ≤ bt107.2 then (if bt107.2 ≤ (t.size : Int) then (spec_Runes.l0 k (t.extract (bt107.2 : Int).toNat t.size) (acc ++ [bt107.1])) else (none)) else (none)) else (none)))) (fun k => by simp only [spec_Runes.l0]; rw [if_neg (by rw [toList_eq']; exact e)]) ?_
      refine Ev.bind (l1Rune_ev t e) ?_
      obtain ⟨m, hm⟩ : ∃ m, t.data.toList.length = m + 1 := ⟨t.data.toList.length - 1, by rw [data_length]; omega⟩
      by_cases c : (Lib.decodeL t.data.toList).1 = 65533 ∧ (Lib.decodeL t.data.toList).2 = 1
      · have e1 : outR (Lib.decodeL t.data.toList) = (0, 0) := by unfold outR; rw [if_pos c]
        have e2 : runesR t.data.toList acc = ([], false) := by
          unfold runesR
          rw [hm, Lib.validGoD, if_neg e, if_pos c]
          rfl
        rw [e1, e2]
        simp only [if_true]
        exact Ev.now _
      · have e1 : outR (Lib.decodeL t.data.toList) = (((Lib.decodeL t.data.toList).1 : Int), ((Lib.decodeL t.data.toList).2 : Int)) := by unfold outR; rw [if_neg c]
        rw [e1]
        have q1 : ¬ ((Lib.decodeL t.data.toList).2 : Int) = 0 := by omega
        have q2 : acc.length < 17592186044416 := by omega
        have q3 : 0 ≤ ((Lib.decodeL t.data.toList).2 : Int) := by omega
        have q4 : ((Lib.decodeL t.data.toList).2 : Int) ≤ (t.size : Int) := by omega
        simp only [q1, q2, q3, q4, if_true, if_false, Int.toNat_natCast]
        have hz : (t.extract (Lib.decodeL t.data.toList).2 t.size).size = t.size - (Lib.decodeL t.data.toList).2 := by rw [ByteArray.size_extract]; omega
        have h := ih (t.extract (Lib.decodeL t.data.toList).2 t.size) (acc ++ [((Lib.decodeL t.data.toList).1 : Int)]) (by omega) (by rw [List.length_append]; simp only [List.length_cons, List.length_nil]; omega)
        have e2 : runesR t.data.toList acc = runesR (t.extract (Lib.decodeL t.data.toList).2 t.size).data.toList (acc ++ [((Lib.decodeL t.data.toList).1 : Int)]) := by
          rw [drop_extract]
          have hlen : (t.data.toList.drop (Lib.decodeL t.data.toList).2).length ≤ m := by rw [List.length_drop]; omega
          have hf := valid_fuel m (t.data.toList.drop (Lib.decodeL t.data.toList).2) _ hlen (Nat.le_refl _)
          unfold runesR
          rw [← hf.1, ← hf.2, hm]
          simp only [Lib.validGoD, impl_Runes.from, if_neg e, if_neg c, List.append_assoc, List.cons_append, List.nil_append]
        rw [e2]
        exact h
def runesOf (t : ByteArray) : List Int × Bool := if (t.size : Int) > 20000 then ([], false) else runesR t.data.toList []
theorem spec_Runes_ev (t : ByteArray) : Ev (fun k => spec_Runes.f k t) (runesOf t) := by
  unfold spec_Runes.f runesOf
  by_cases c : (t.size : Int) > 20000
  · simp only [c, if_true]
    exact Ev.now _
  · simp only [c, if_false]
    exact spec_Runes_l0_ev t.size t [] (Nat.le_refl _) (by simp; omega)
theorem impl_Runes_eq (t : ByteArray) : impl_Runes.f t = some (runesOf t) := by
  unfold impl_Runes.f runesOf runesR Lib.validD
  by_cases c : (t.size : Int) > 20000
  · rw [if_pos c, if_pos c]
  · rw [if_neg c, if_neg c, data_length]
    split <;> simp
theorem runes_length : ∀ (n : Nat) (l : List UInt8), (impl_Runes.from n l).length ≤ n
  | 0, _ => by simp [impl_Runes.from]
  | n + 1, l => by
    rw [impl_Runes.from]
    split
    · simp
    · have := runes_length n (l.drop (Lib.decodeL l).2)
      simp
      omega
theorem runes_range : ∀ (n : Nat) (l : List UInt8), ∀ x ∈ impl_Runes.from n l, 0 ≤ x ∧ x ≤ 1114111
  | 0, _ => by simp [impl_Runes.from]
  | n + 1, l => by
    intro x hx
    rw [impl_Runes.from] at hx
    split at hx
    · simp at hx
    · rcases List.mem_cons.1 hx with e | e
      · have := Lib.decodeL_rune l
        omega
      · exact runes_range n _ x e
theorem runesOf_length (t : ByteArray) : (runesOf t).1.length ≤ 20000 := by
  unfold runesOf runesR
  split
  · simp
  · rename_i h
    split
    · have := runes_length t.data.toList.length t.data.toList
      rw [data_length] at this
      simp only [List.nil_append, data_length]
      omega
    · simp
end Go.Proofs.YtomfhenoblfckaaDoor.PT
