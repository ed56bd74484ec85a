/- The words between blanks, byte by byte, and the library's fields, character by character: the same. -/
import Derived.Test.YtaliphegdclkfaaPWx0
import Derived.Test.YtaliphegdclkfaaWPBase
import Derived.Test.YtaliphegdclkfaaWPBytes
import Derived.Lib.FieldsP
import Derived.Lib.TrimUEq
import Derived.Lib.Join
namespace Go.Proofs.Ytaliphegdclkfaa.PW
open Go.RowKit Go.Proofs.YtaliphegdclkfaaW.PrintWords Go.Proofs.YtaliphegdclkfaaW.PrintMore
set_option linter.unusedVariables false
set_option linter.unusedSimpArgs false
theorem fdec2 {n b0 b1 b2 b3 : Nat} (h : 192 ≤ b0 ∧ b0 < 224) : Lib.decodeN n b0 b1 b2 b3 = if (1 < n ∧ b1 / 64 = 2) ∧ b0 % 32 * 64 + b1 % 64 ≥ 128 then (b0 % 32 * 64 + b1 % 64, 2) else (65533, 1) := by
  unfold Lib.decodeN
  rw [if_neg (by omega)]
  by_cases c : 1 < n ∧ b1 / 64 = 2
  · rw [if_pos ⟨by omega, c⟩]
    by_cases d : b0 % 32 * 64 + b1 % 64 ≥ 128
    · rw [if_pos d, if_pos ⟨c, d⟩]
    · rw [if_neg d, if_neg (fun h => d h.2)]
  · rw [if_neg (fun x => c x.2), if_neg (fun x => by have := x.1; omega), if_neg (fun x => by have := x.1; omega), if_neg (fun x => c x.1)]
/-- What a decoded character that is no sign of one byte says of the bytes read. -/
theorem fdec (n b0 b1 b2 b3 : Nat) (h : 128 ≤ b0) : (Lib.decodeN n b0 b1 b2 b3 = (65533, 1)) ∨ (128 ≤ (Lib.decodeN n b0 b1 b2 b3).1 ∧ ((Lib.decodeN n b0 b1 b2 b3).2 = 2 ∧ 1 < n ∧ 128 ≤ b1 ∨ (Lib.decodeN n b0 b1 b2 b3).2 = 3 ∧ 2 < n ∧ 128 ≤ b1 ∧ 128 ≤ b2 ∨ (Lib.decodeN n b0 b1 b2 b3).2 = 4 ∧ 3 < n ∧ 128 ≤ b1 ∧ 128 ≤ b2 ∧ 128 ≤ b3)) := by
  unfold Lib.decodeN
  rw [if_neg (by omega)]
  by_cases c2 : b0 / 32 = 6 ∧ (1 < n ∧ b1 / 64 = 2)
  · rw [if_pos c2]
    by_cases d : b0 % 32 * 64 + b1 % 64 ≥ 128
    · rw [if_pos d]
      exact .inr ⟨d, .inl ⟨rfl, c2.2.1, by have := c2.2.2; omega⟩⟩
    · rw [if_neg d]
      exact .inl rfl
  · rw [if_neg c2]
    by_cases c3 : b0 / 16 = 14 ∧ (1 < n ∧ b1 / 64 = 2) ∧ (2 < n ∧ b2 / 64 = 2)
    · rw [if_pos c3]
      split
      · rename_i d
        refine .inr ⟨?_, .inr (.inl ⟨rfl, c3.2.2.1, by have := c3.2.1.2; omega, by have := c3.2.2.2; omega⟩)⟩
        show 128 ≤ b0 % 16 * 4096 + b1 % 64 * 64 + b2 % 64
        have := d.1
        omega
      · exact .inl rfl
    · rw [if_neg c3]
      by_cases c4 : b0 / 8 = 30 ∧ (1 < n ∧ b1 / 64 = 2) ∧ (2 < n ∧ b2 / 64 = 2) ∧ (3 < n ∧ b3 / 64 = 2)
      · rw [if_pos c4]
        split
        · rename_i d
          refine .inr ⟨?_, .inr (.inr ⟨rfl, c4.2.2.2.1, by have := c4.2.1.2; omega, by have := c4.2.2.1.2; omega, by have := c4.2.2.2.2; omega⟩)⟩
          show 128 ≤ b0 % 8 * 262144 + b1 % 64 * 4096 + b2 % 64 * 64 + b3 % 64
          have := d.1
          omega
        · exact .inl rfl
      · rw [if_neg c4]
        exact .inl rfl
def blankR (r : Nat) : Bool := r == 32 || r == 9 || r == 10 || r == 13
theorem blank_big {r : Nat} (h : 128 ≤ r) : blankR r = false := by
  unfold blankR
  simp
  omega
def wordsL : List UInt8 → List UInt8 → List (List UInt8)
  | [], cur => if cur = [] then [] else [cur]
  | b :: l, cur => if blankR b.toNat = true then (if cur = [] then wordsL l [] else cur :: wordsL l []) else wordsL l (cur ++ [b])
theorem wordsL_skip : ∀ (xs l cur : List UInt8), (∀ b ∈ xs, blankR b.toNat = false) → wordsL (xs ++ l) cur = wordsL l (cur ++ xs)
  | [], l, cur, _ => by rw [List.nil_append, List.append_nil]
  | b :: xs, l, cur, h => by
    rw [List.cons_append, wordsL, if_neg (by rw [h b List.mem_cons_self]; decide), wordsL_skip xs l (cur ++ [b]) (fun x hx => h x (List.mem_cons_of_mem _ hx)), List.append_assoc]
    rfl
theorem fdec_at (s : ByteArray) (pos : Nat) (h : pos < s.size) : ((s.data.toList.getD pos 0).toNat < 128 ∧ Utf8.decode s pos = ((s.data.toList.getD pos 0).toNat, 1)) ∨ (blankR (Utf8.decode s pos).1 = false ∧ 1 ≤ (Utf8.decode s pos).2 ∧ pos + (Utf8.decode s pos).2 ≤ s.size ∧ ∀ j, j < (Utf8.decode s pos).2 → blankR (s.data.toList.getD (pos + j) 0).toNat = false) := by
  have hl : s.data.toList.length = s.size := data_length s
  rw [Lib.decode_N]
  by_cases c : (s.data.toList.getD pos 0).toNat < 128
  · exact .inl ⟨c, Lib.decodeN_ascii _ _ _ _ _ c⟩
  · refine .inr ?_
    have h0 : blankR (s.data.toList.getD pos 0).toNat = false := blank_big (by omega)
    rcases fdec (s.data.toList.length - pos) (s.data.toList.getD pos 0).toNat (s.data.toList.getD (pos + 1) 0).toNat (s.data.toList.getD (pos + 2) 0).toNat (s.data.toList.getD (pos + 3) 0).toNat (by omega) with e | ⟨e1, e⟩
    · rw [e]
      refine ⟨by decide, Nat.le_refl _, h, fun j hj => ?_⟩
      obtain rfl : j = 0 := by omega
      exact h0
    · refine ⟨blank_big e1, ?_⟩
      rcases e with ⟨e2, h1, h2⟩ | ⟨e2, h1, h2, h3⟩ | ⟨e2, h1, h2, h3, h4⟩
      · rw [e2]
        refine ⟨by omega, by omega, fun j hj => ?_⟩
        match j, hj with
        | 0, _ => exact h0
        | 1, _ => exact blank_big h2
      · rw [e2]
        refine ⟨by omega, by omega, fun j hj => ?_⟩
        match j, hj with
        | 0, _ => exact h0
        | 1, _ => exact blank_big h2
        | 2, _ => exact blank_big h3
      · rw [e2]
        refine ⟨by omega, by omega, fun j hj => ?_⟩
        match j, hj with
        | 0, _ => exact h0
        | 1, _ => exact blank_big h2
        | 2, _ => exact blank_big h3
        | 3, _ => exact blank_big h4
def cutL (s : ByteArray) (a b : Nat) : List UInt8 := (s.data.toList.drop a).take (b - a)
theorem cutL_snoc (s : ByteArray) (a b c : Nat) (h1 : a ≤ b) (h2 : b ≤ c) : cutL s a b ++ cutL s b c = cutL s a c := by
  unfold cutL
  have e : s.data.toList.drop b = (s.data.toList.drop a).drop (b - a) := by rw [List.drop_drop]; congr 1; omega
  rw [e, show c - a = (b - a) + (c - b) by omega, List.take_add]
theorem cutL_rest (s : ByteArray) (a b : Nat) (h1 : a ≤ b) : s.data.toList.drop a = cutL s a b ++ s.data.toList.drop b := by
  unfold cutL
  have e : s.data.toList.drop b = (s.data.toList.drop a).drop (b - a) := by rw [List.drop_drop]; congr 1; omega
  rw [e, List.take_append_drop]
theorem cutL_ne (s : ByteArray) (a b : Nat) (h1 : a < b) (h2 : b ≤ s.size) : cutL s a b ≠ [] := by
  intro h
  have := congrArg List.length h
  unfold cutL at this
  rw [List.length_take, List.length_drop, data_length] at this
  simp at this
  omega
theorem cutL_mem (s : ByteArray) (a n : Nat) (hb : ∀ j, j < n → blankR (s.data.toList.getD (a + j) 0).toNat = false) : ∀ b ∈ cutL s a (a + n), blankR b.toNat = false := by
  intro b hb2
  obtain ⟨j, hj⟩ := List.mem_iff_getElem?.1 hb2
  unfold cutL at hj
  rw [List.getElem?_take] at hj
  split at hj
  · rename_i hlt
    rw [List.getElem?_drop] at hj
    have := hb j (by omega)
    rw [List.getD_eq_getElem?_getD, hj] at this
    exact this
  · cases hj
theorem cutL_one (s : ByteArray) (a : Nat) (h : a < s.size) : cutL s a (a + 1) = [s.data.toList.getD a 0] := by
  unfold cutL
  have hl : a < s.data.toList.length := by rw [data_length]; exact h
  rw [show a + 1 - a = 1 by omega, List.drop_eq_getElem_cons hl, List.getD_eq_getElem?_getD, List.getElem?_eq_getElem hl]
  rfl
def curL (s : ByteArray) (pos : Nat) : Option Nat → List UInt8
  | none => []
  | some a => cutL s a pos
def nextS (s : ByteArray) (f pos n : Nat) (st : Option Nat) (acc : List (Nat × Nat)) : List (Nat × Nat) × Option Nat :=
  match st with
  | some a => Lib.spansFromP blankR s f (pos + n) (some a) acc
  | none => Lib.spansFromP blankR s f (pos + n) (some pos) acc
theorem spans_words (s : ByteArray) : ∀ (f pos : Nat) (st : Option Nat) (acc : List (Nat × Nat)), pos ≤ s.size → s.size - pos ≤ f → (∀ a, st = some a → a < pos) →
    (Lib.closeSpans s (Lib.spansFromP blankR s f pos st acc)).map (fun x => cutL s x.1 x.2) = acc.map (fun x => cutL s x.1 x.2) ++ wordsL (s.data.toList.drop pos) (curL s pos st)
  | 0, pos, st, acc, h1, h2, h3 => by
    obtain rfl : pos = s.size := by omega
    rw [List.drop_eq_nil_of_le (by rw [data_length]; exact Nat.le_refl _), wordsL]
    unfold Lib.spansFromP Lib.closeSpans
    cases st with
    | none => simp [curL]
    | some a =>
      have := cutL_ne s a s.size (h3 a rfl) (Nat.le_refl _)
      simp [curL, this]
  | f + 1, pos, st, acc, h1, h2, h3 => by
    by_cases hp : pos < s.size
    · have go : ∀ n, 1 ≤ n → pos + n ≤ s.size → (∀ j, j < n → blankR (s.data.toList.getD (pos + j) 0).toNat = false) → (Lib.closeSpans s (nextS s f pos n st acc)).map (fun x => cutL s x.1 x.2) = acc.map (fun x => cutL s x.1 x.2) ++ wordsL (s.data.toList.drop pos) (curL s pos st) := by
        intro n hn1 hn2 hn3
        rw [cutL_rest s pos (pos + n) (by omega), wordsL_skip _ _ _ (cutL_mem s pos n hn3)]
        cases st with
        | none =>
          show (Lib.closeSpans s (Lib.spansFromP blankR s f (pos + n) (some pos) acc)).map _ = _
          rw [spans_words s f (pos + n) (some pos) acc hn2 (by omega) (fun a ha => by injection ha with ha; omega)]
          rfl
        | some a =>
          show (Lib.closeSpans s (Lib.spansFromP blankR s f (pos + n) (some a) acc)).map _ = _
          have ha := h3 a rfl
          rw [spans_words s f (pos + n) (some a) acc hn2 (by omega) (fun a' ha' => by injection ha' with ha'; omega)]
          show _ ++ wordsL _ (cutL s a (pos + n)) = _ ++ wordsL _ (cutL s a pos ++ cutL s pos (pos + n))
          rw [cutL_snoc s a pos (pos + n) (by omega) (by omega)]
      unfold Lib.spansFromP
      rw [if_pos hp]
      rcases fdec_at s pos hp with ⟨hb, e⟩ | ⟨hb, e1, e2, e3⟩
      · rw [e]
        show (Lib.closeSpans s (if blankR (s.data.toList.getD pos 0).toNat = true then _ else _)).map _ = _
        by_cases hbl : blankR (s.data.toList.getD pos 0).toNat = true
        · rw [if_pos hbl, cutL_rest s pos (pos + 1) (by omega), cutL_one s pos hp, List.singleton_append, wordsL, if_pos hbl]
          cases st with
          | none =>
            show (Lib.closeSpans s (Lib.spansFromP blankR s f (pos + 1) none acc)).map _ = _ ++ if ([] : List UInt8) = [] then _ else _
            rw [if_pos rfl, spans_words s f (pos + 1) none acc (by omega) (by omega) (fun a ha => by cases ha)]
            rfl
          | some a =>
            show (Lib.closeSpans s (Lib.spansFromP blankR s f (pos + 1) none (acc ++ [(a, pos)]))).map _ = _ ++ if cutL s a pos = [] then _ else _
            rw [if_neg (cutL_ne s a pos (h3 a rfl) h1), spans_words s f (pos + 1) none (acc ++ [(a, pos)]) (by omega) (by omega) (fun a ha => by cases ha), List.map_append, List.append_assoc]
            rfl
        · rw [if_neg hbl]
          exact go 1 (Nat.le_refl _) hp (fun j hj => by obtain rfl : j = 0 := (by omega); rw [Nat.add_zero]; exact Bool.eq_false_iff.2 hbl)
      · rw [if_neg (by rw [hb]; decide)]
        exact go _ e1 e2 e3
    · obtain rfl : pos = s.size := by omega
      rw [Lib.spansFromP_end _ _ _ _ _ _ hp, List.drop_eq_nil_of_le (by rw [data_length]; exact Nat.le_refl _), wordsL]
      unfold Lib.closeSpans
      cases st with
      | none => simp [curL]
      | some a =>
        have := cutL_ne s a s.size (h3 a rfl) (Nat.le_refl _)
        simp [curL, this]
theorem fields_words (s : ByteArray) : (Lib.goFieldsP blankR s).map (·.data.toList) = wordsL s.data.toList [] := by
  have h := spans_words s s.size 0 none [] (Nat.zero_le _) (Nat.le_refl _) (fun a ha => by cases ha)
  unfold Lib.goFieldsP Lib.spansOfP
  rw [List.map_map]
  refine Eq.trans ?_ h
  refine List.map_congr_left fun x _ => ?_
  show (s.extract x.1 x.2).data.toList = cutL s x.1 x.2
  rw [Lib.extract_data]
  rfl
end Go.Proofs.Ytaliphegdclkfaa.PW
