/- Texts with their signs taken back: what both sides come to, as a function of lists of bytes. -/
import Derived.Test.YtbhklkpjjpkblaaDoorPUx2
import Derived.Test.YtbhklkpjjpkblaaDoorUPBase
import Derived.Test.YtbhklkpjjpkblaaDoorUPIn
import Derived.Test.YtbhklkpjjpkblaaDoorUPRunes
import Derived.Test.YtbhklkpjjpkblaaDoorUPPlain
import Derived.Test.YtbhklkpjjpkblaaDoorUPBytes
import Derived.Lib.ParseIntBCases
import Derived.Lib.Strings
namespace Go.Proofs.YtbhklkpjjpkblaaDoor.PU
open Go.RowKit Go.Proofs.YtbhklkpjjpkblaaDoorW.PrintWords Go.Proofs.YtbhklkpjjpkblaaDoorW.PrintMore
set_option linter.unusedVariables false
set_option linter.unusedSimpArgs false
def enc (r : Int) : List Int := if r < 128 then [r] else if r < 2048 then [192 + r / 64, 128 + r % 64] else if r < 65536 then [224 + r / 4096, 128 + r / 64 % 64, 128 + r % 64] else [240 + r / 262144, 128 + r / 4096 % 64, 128 + r / 64 % 64, 128 + r % 64]
theorem charB_range {r : Int} (h : charB r = true) : (0 ≤ r ∧ r ≤ 55295) ∨ (57344 ≤ r ∧ r ≤ 1114111) := by
  unfold charB at h
  have := of_decide_eq_true h
  omega
theorem enc_length (r : Int) : 1 ≤ (enc r).length ∧ (enc r).length ≤ 4 := by
  unfold enc
  repeat' split
  all_goals simp
theorem l1Bytes_eq {r : Int} (h : charB r = true) : spec_l1Bytes.f r = some (strOfNums (enc r)) := by
  have hr := charB_range h
  unfold spec_l1Bytes.f enc
  have t1 : Int.tdiv r 64 = r / 64 := Int.tdiv_eq_ediv_of_nonneg (by omega)
  have t2 : Int.tmod r 64 = r % 64 := Int.tmod_eq_emod_of_nonneg (by omega)
  have t3 : Int.tdiv r 4096 = r / 4096 := Int.tdiv_eq_ediv_of_nonneg (by omega)
  have t4 : Int.tdiv r 262144 = r / 262144 := Int.tdiv_eq_ediv_of_nonneg (by omega)
  have w1 : wrap64 (r / 64) = r / 64 := w64 (by omega) (by omega)
  have w3 : wrap64 (r / 4096) = r / 4096 := w64 (by omega) (by omega)
  have w4 : wrap64 (r / 262144) = r / 262144 := w64 (by omega) (by omega)
  have t5 : Int.tmod (r / 64) 64 = r / 64 % 64 := Int.tmod_eq_emod_of_nonneg (by omega)
  have t6 : Int.tmod (r / 4096) 64 = r / 4096 % 64 := Int.tmod_eq_emod_of_nonneg (by omega)
  simp only [t1, t2, t3, t4, w1, w3, w4, t5, t6]
  by_cases c1 : r < 128
  · simp only [c1, if_true]
    congr 3
    omega
  simp only [c1, if_false]
  by_cases c2 : r < 2048
  · simp only [c2, if_true]
    rw [w64 (x := 192 + r / 64) (by omega) (by omega), w64 (x := 128 + r % 64) (by omega) (by omega), show (192 + r / 64) % 256 = 192 + r / 64 by omega, show (128 + r % 64) % 256 = 128 + r % 64 by omega]
  simp only [c2, if_false]
  by_cases c3 : r < 65536
  · simp only [c3, if_true]
    rw [w64 (x := 224 + r / 4096) (by omega) (by omega), w64 (x := 128 + r / 64 % 64) (by omega) (by omega), w64 (x := 128 + r % 64) (by omega) (by omega), show (224 + r / 4096) % 256 = 224 + r / 4096 by omega, show (128 + r / 64 % 64) % 256 = 128 + r / 64 % 64 by omega, show (128 + r % 64) % 256 = 128 + r % 64 by omega]
  simp only [c3, if_false]
  rw [w64 (x := 240 + r / 262144) (by omega) (by omega), w64 (x := 128 + r / 4096 % 64) (by omega) (by omega), w64 (x := 128 + r / 64 % 64) (by omega) (by omega), w64 (x := 128 + r % 64) (by omega) (by omega), show (240 + r / 262144) % 256 = 240 + r / 262144 by omega, show (128 + r / 4096 % 64) % 256 = 128 + r / 4096 % 64 by omega, show (128 + r / 64 % 64) % 256 = 128 + r / 64 % 64 by omega, show (128 + r % 64) % 256 = 128 + r % 64 by omega]
theorem encode_eq {r : Int} (h : charB r = true) : Utf8.encode r = strOfNums (enc r) := by
  have hr := charB_range h
  have hv : Utf8.valid r = true := by
    unfold Utf8.valid
    simp only [Bool.or_eq_true, Bool.and_eq_true, decide_eq_true_eq]
    omega
  obtain ⟨n, rfl⟩ := Int.eq_ofNat_of_zero_le (show 0 ≤ r by omega)
  unfold Utf8.encode
  simp only [hv, if_true, Int.toNat_natCast]
  unfold enc strOfNums
  by_cases c1 : n < 128
  · rw [if_pos c1, if_pos (show (n : Int) < 128 by omega)]
    rfl
  rw [if_neg c1, if_neg (show ¬ (n : Int) < 128 by omega)]
  by_cases c2 : n < 2048
  · rw [if_pos c2, if_pos (show (n : Int) < 2048 by omega)]
    simp only [List.map_cons, List.map_nil]
    rw [show (192 + (n : Int) / 64).toNat = 192 + n / 64 by omega, show (128 + (n : Int) % 64).toNat = 128 + n % 64 by omega]
  rw [if_neg c2, if_neg (show ¬ (n : Int) < 2048 by omega)]
  by_cases c3 : n < 65536
  · rw [if_pos c3, if_pos (show (n : Int) < 65536 by omega)]
    simp only [List.map_cons, List.map_nil]
    rw [show (224 + (n : Int) / 4096).toNat = 224 + n / 4096 by omega, show (128 + (n : Int) / 64 % 64).toNat = 128 + n / 64 % 64 by omega, show (128 + (n : Int) % 64).toNat = 128 + n % 64 by omega]
  rw [if_neg c3, if_neg (show ¬ (n : Int) < 65536 by omega)]
  simp only [List.map_cons, List.map_nil]
  rw [show (240 + (n : Int) / 262144).toNat = 240 + n / 262144 by omega, show (128 + (n : Int) / 4096 % 64).toNat = 128 + n / 4096 % 64 by omega, show (128 + (n : Int) / 64 % 64).toNat = 128 + n / 64 % 64 by omega, show (128 + (n : Int) % 64).toNat = 128 + n % 64 by omega]
theorem encS_size (r : Int) : (strOfNums (enc r)).size ≤ 4 := by
  have := (enc_length r).2
  rw [← data_length, strOfNums_data, List.length_map]
  exact this
def isD (b : UInt8) : Bool := decide (48 ≤ b.toNat ∧ b.toNat ≤ 57)
def numL (acc : Nat) (l : List UInt8) : Nat := l.foldl (fun a c => a * 10 + (c.toNat - 48)) acc
theorem numL_cons (acc : Nat) (c : UInt8) (l : List UInt8) : numL acc (c :: l) = numL (acc * 10 + (c.toNat - 48)) l := by
  unfold numL
  rw [List.foldl_cons]
def entL (w : List UInt8) : Option ByteArray :=
  if w = [97, 109, 112] then some ⟨#[38]⟩ else if w = [108, 116] then some ⟨#[60]⟩ else if w = [103, 116] then some ⟨#[62]⟩ else if w = [113, 117, 111, 116] then some ⟨#[34]⟩ else if w = [97, 112, 111, 115] then some ⟨#[39]⟩
  else if (w.take 1 = [35] ∧ 2 ≤ w.length ∧ w.length ≤ 8) ∧ ((w.drop 1).all isD = true ∧ charB (numL 0 (w.drop 1) : Nat) = true) then some (strOfNums (enc (numL 0 (w.drop 1) : Nat))) else none
theorem entL_cases {w : List UInt8} {x : ByteArray} (h : entL w = some x) : (w = [97, 109, 112] ∧ x = ⟨#[38]⟩) ∨ (w = [108, 116] ∧ x = ⟨#[60]⟩) ∨ (w = [103, 116] ∧ x = ⟨#[62]⟩) ∨ (w = [113, 117, 111, 116] ∧ x = ⟨#[34]⟩) ∨ (w = [97, 112, 111, 115] ∧ x = ⟨#[39]⟩) ∨ (((w.take 1 = [35] ∧ 2 ≤ w.length ∧ w.length ≤ 8) ∧ ((w.drop 1).all isD = true ∧ charB (numL 0 (w.drop 1) : Nat) = true)) ∧ x = strOfNums (enc (numL 0 (w.drop 1) : Nat))) := by
  unfold entL at h
  by_cases c1 : w = [97, 109, 112]
  · rw [if_pos c1] at h; exact .inl ⟨c1, (Option.some.inj h).symm⟩
  rw [if_neg c1] at h
  by_cases c2 : w = [108, 116]
  · rw [if_pos c2] at h; exact .inr (.inl ⟨c2, (Option.some.inj h).symm⟩)
  rw [if_neg c2] at h
  by_cases c3 : w = [103, 116]
  · rw [if_pos c3] at h; exact .inr (.inr (.inl ⟨c3, (Option.some.inj h).symm⟩))
  rw [if_neg c3] at h
  by_cases c4 : w = [113, 117, 111, 116]
  · rw [if_pos c4] at h; exact .inr (.inr (.inr (.inl ⟨c4, (Option.some.inj h).symm⟩)))
  rw [if_neg c4] at h
  by_cases c5 : w = [97, 112, 111, 115]
  · rw [if_pos c5] at h; exact .inr (.inr (.inr (.inr (.inl ⟨c5, (Option.some.inj h).symm⟩))))
  rw [if_neg c5] at h
  by_cases c6 : (w.take 1 = [35] ∧ 2 ≤ w.length ∧ w.length ≤ 8) ∧ ((w.drop 1).all isD = true ∧ charB (numL 0 (w.drop 1) : Nat) = true)
  · rw [if_pos c6] at h; exact .inr (.inr (.inr (.inr (.inr ⟨c6, (Option.some.inj h).symm⟩))))
  · rw [if_neg c6] at h; cases h
theorem entL_size {w : List UInt8} {x : ByteArray} (h : entL w = some x) : x.size ≤ 4 := by
  rcases entL_cases h with ⟨_, rfl⟩ | ⟨_, rfl⟩ | ⟨_, rfl⟩ | ⟨_, rfl⟩ | ⟨_, rfl⟩ | ⟨_, rfl⟩
  · show 1 ≤ 4; omega
  · show 1 ≤ 4; omega
  · show 1 ≤ 4; omega
  · show 1 ≤ 4; omega
  · show 1 ≤ 4; omega
  · exact encS_size _
theorem entL_no60 {w : List UInt8} {x : ByteArray} (h : entL w = some x) : (60 : UInt8) ∉ w := by
  rcases entL_cases h with ⟨rfl, _⟩ | ⟨rfl, _⟩ | ⟨rfl, _⟩ | ⟨rfl, _⟩ | ⟨rfl, _⟩ | ⟨⟨⟨h1, _, _⟩, h2, _⟩, _⟩
  · decide
  · decide
  · decide
  · decide
  · decide
  intro hm
  rw [← List.take_append_drop 1 w, h1] at hm
  rcases List.mem_append.1 hm with hm | hm
  · have : ¬ (60 : UInt8) ∈ ([35] : List UInt8) := by decide
    exact this hm
  · have h3 := List.all_eq_true.1 h2 _ hm
    have : ¬ isD (60 : UInt8) = true := by decide
    exact this h3
theorem entL_long {w : List UInt8} (h : 8 < w.length) : entL w = none := by
  unfold entL
  rw [if_neg (by intro e; rw [e] at h; simp at h), if_neg (by intro e; rw [e] at h; simp at h), if_neg (by intro e; rw [e] at h; simp at h), if_neg (by intro e; rw [e] at h; simp at h), if_neg (by intro e; rw [e] at h; simp at h), if_neg (by intro e; omega)]
/-- The bytes up to the first c. -/
def upto (c : UInt8) (l : List UInt8) : List UInt8 := l.takeWhile (· != c)
theorem upto_le (c : UInt8) (l : List UInt8) : (upto c l).length ≤ l.length := by
  unfold upto
  exact (List.takeWhile_prefix _).length_le
theorem upto_take (c : UInt8) (l : List UInt8) : upto c l = l.take (upto c l).length := List.prefix_iff_eq_take.1 (List.takeWhile_prefix _)
theorem upto_cons (c b : UInt8) (l : List UInt8) : upto c (b :: l) = if b = c then [] else b :: upto c l := by
  unfold upto
  rw [List.takeWhile_cons]
  by_cases e : b = c
  · rw [if_pos e]; simp [e]
  · rw [if_neg e]; simp [e]
theorem upto_split (c : UInt8) : ∀ l : List UInt8, (upto c l).length < l.length → l = upto c l ++ c :: l.drop ((upto c l).length + 1)
  | [] => by simp
  | b :: l => by
    intro h
    rw [upto_cons] at h ⊢
    by_cases e : b = c
    · rw [if_pos e, e]; rfl
    · rw [if_neg e] at h ⊢
      have ih := upto_split c l (by simpa using h)
      rw [List.length_cons, List.drop_succ_cons, List.cons_append]
      exact congrArg (b :: ·) ih
theorem upto_mem (c : UInt8) (l : List UInt8) : ∀ b ∈ upto c l, b ≠ c := by
  intro b hb
  have := List.all_eq_true.1 (List.all_takeWhile (p := (· != c)) (l := l)) b hb
  simpa using this
theorem upto_full (c : UInt8) (l : List UInt8) (h : ¬ (upto c l).length < l.length) : upto c l = l := by
  rw [upto_take, List.take_of_length_le (by omega)]
theorem index_upto (c : UInt8) : ∀ l : List UInt8, Lib.indexByte l c = if (upto c l).length < l.length then ((upto c l).length : Int) else -1
  | [] => rfl
  | b :: l => by
    have ih := index_upto c l
    rw [Lib.indexByte, upto_cons, ih]
    by_cases e : b = c
    · subst e
      simp
    · have e2 : (b == c) = false := beq_eq_false_iff_ne.2 e
      rw [if_neg e, e2]
      simp only [Bool.false_eq_true, if_false, List.length_cons]
      by_cases h : (upto c l).length < l.length
      · have h' : (upto c l).length + 1 < l.length + 1 := by omega
        have hq : ¬ (((upto c l).length : Int) == -1) = true := by rw [beq_iff_eq]; omega
        simp only [h, h', if_true, hq]
        simp
      · have h' : ¬ (upto c l).length + 1 < l.length + 1 := by omega
        simp only [h, h', if_false]
        rfl
/-- With fuel: the text with its signs taken back. -/
def unF : Nat → List UInt8 → Option (List UInt8)
  | _, [] => some []
  | 0, _ :: _ => some []
  | d + 1, b :: l => if b = 60 then none else if b = 38 then (if (upto 59 l).length < l.length ∧ (upto 59 l).length ≤ 8 then (match entL (upto 59 l) with
      | some x => (unF d (l.drop ((upto 59 l).length + 1))).map (x.data.toList ++ ·)
      | none => none) else none) else (unF d l).map (b :: ·)
theorem unF_fuel : ∀ (n : Nat) (l : List UInt8) (d e : Nat), l.length ≤ n → l.length ≤ d → l.length ≤ e → unF d l = unF e l
  | _, [], d, e, _, _, _ => by cases d <;> cases e <;> rfl
  | n + 1, b :: l, d + 1, e + 1, hn, hd, he => by
    simp only [List.length_cons] at hn hd he
    unfold unF
    rw [unF_fuel n l d e (by omega) (by omega) (by omega), unF_fuel n (l.drop ((upto 59 l).length + 1)) d e (by rw [List.length_drop]; omega) (by rw [List.length_drop]; omega) (by rw [List.length_drop]; omega)]
def un (l : List UInt8) : Option (List UInt8) := unF l.length l
theorem un_nil : un [] = some [] := rfl
theorem un_cons (b : UInt8) (l : List UInt8) : un (b :: l) = if b = 60 then none else if b = 38 then (if (upto 59 l).length < l.length ∧ (upto 59 l).length ≤ 8 then (match entL (upto 59 l) with
      | some x => (un (l.drop ((upto 59 l).length + 1))).map (x.data.toList ++ ·)
      | none => none) else none) else (un l).map (b :: ·) := by
  unfold un
  rw [List.length_cons, unF]
  rw [unF_fuel l.length (l.drop ((upto 59 l).length + 1)) l.length (l.drop ((upto 59 l).length + 1)).length (by rw [List.length_drop]; omega) (by rw [List.length_drop]; omega) (Nat.le_refl _)]
theorem un_has60 : ∀ (n : Nat) (l : List UInt8), l.length ≤ n → (60 : UInt8) ∈ l → un l = none
  | 0, l, hn, hm => by cases l with | nil => cases hm | cons b l => simp at hn
  | n + 1, [], _, hm => by cases hm
  | n + 1, b :: l, hn, hm => by
    simp only [List.length_cons] at hn
    rw [un_cons]
    by_cases e : b = 60
    · rw [if_pos e]
    rw [if_neg e]
    have hm2 : (60 : UInt8) ∈ l := by
      rcases List.mem_cons.1 hm with h | h
      · exact absurd h.symm e
      · exact h
    by_cases e2 : b = 38
    · rw [if_pos e2]
      by_cases c : (upto 59 l).length < l.length ∧ (upto 59 l).length ≤ 8
      · rw [if_pos c]
        cases hx : entL (upto 59 l) with
        | none => rfl
        | some x =>
          have hn60 := entL_no60 hx
          have hs := upto_split 59 l c.1
          have hm3 : (60 : UInt8) ∈ l.drop ((upto 59 l).length + 1) := by
            rw [hs] at hm2
            rcases List.mem_append.1 hm2 with h | h
            · exact absurd h hn60
            · rcases List.mem_cons.1 h with h | h
              · exact absurd h (by decide)
              · exact h
          simp only []
          rw [un_has60 n _ (by rw [List.length_drop]; omega) hm3]
          rfl
      · rw [if_neg c]
    · rw [if_neg e2, un_has60 n l (by omega) hm2]
      rfl
theorem un_skip : ∀ (p l : List UInt8), (∀ b ∈ p, b ≠ 60 ∧ b ≠ 38) → un (p ++ l) = (un l).map (p ++ ·)
  | [], l, _ => by simp
  | b :: p, l, h => by
    have hb := h b List.mem_cons_self
    rw [List.cons_append, un_cons, if_neg hb.1, if_neg hb.2, un_skip p l (fun x hx => h x (List.mem_cons_of_mem _ hx))]
    cases un l <;> simp
end Go.Proofs.YtbhklkpjjpkblaaDoor.PU
