/- Characters to bytes and back: what is read of a text, made bytes anew, is the text, and the other way round. -/
import Derived.Test.YtomfhenoblfckaaDoorPRx1
import Derived.Test.YtomfhenoblfckaaDoorRPBase
import Derived.Test.YtomfhenoblfckaaDoorRPIn
import Derived.Test.YtomfhenoblfckaaDoorRPRunes
import Derived.Test.YtomfhenoblfckaaDoorRPOfRunes
namespace Go.Proofs.YtomfhenoblfckaaDoor.PR
open Go.RowKit Go.Proofs.YtomfhenoblfckaaDoorW.PrintWords
set_option linter.unusedVariables false
set_option linter.unusedSimpArgs false
theorem enc_Z {r : Int} (h : isChar r = true) : Lib.encodeRuneZ r = enc r := by
  have hr := isChar_range h
  unfold enc
  by_cases c1 : r < 128
  · rw [if_pos c1, Lib.encodeRuneZ_one (by omega) (by omega)]
  by_cases c2 : r < 2048
  · rw [if_neg c1, if_pos c2, Lib.encodeRuneZ_two (by omega) (by omega)]
  by_cases c3 : r < 65536
  · rw [if_neg c1, if_neg c2, if_pos c3, Lib.encodeRuneZ_three (by omega)]
  · rw [if_neg c1, if_neg c2, if_neg c3, Lib.encodeRuneZ_four (by omega) (by omega)]
theorem isChar_of {r : Int} (h : (0 ≤ r ∧ r ≤ 55295) ∨ (57344 ≤ r ∧ r ≤ 1114111)) : isChar r = true := by
  unfold isChar inR
  simpa using h
theorem dec_char (l : List UInt8) (hv : ¬ ((Lib.decodeL l).1 = 65533 ∧ (Lib.decodeL l).2 = 1)) : isChar ((Lib.decodeL l).1 : Int) = true := by
  have g0 := UInt8.toNat_lt (l.getD 0 0)
  rw [Lib.decodeL_N] at hv ⊢
  generalize l.length = n at *
  generalize (l.getD 0 0).toNat = b0 at *
  generalize (l.getD 1 0).toNat = b1 at *
  generalize (l.getD 2 0).toNat = b2 at *
  generalize (l.getD 3 0).toNat = b3 at *
  apply isChar_of
  by_cases c1 : b0 < 128
  · have e : Lib.decodeN n b0 b1 b2 b3 = (b0, 1) := by unfold Lib.decodeN; rw [if_pos c1]
    rw [e]
    simp only []
    omega
  by_cases c2 : 192 ≤ b0 ∧ b0 < 224
  · rw [decN2 c2] at hv ⊢
    split
    · simp only []; omega
    · rename_i h; rw [if_neg h] at hv; exact absurd ⟨rfl, rfl⟩ hv
  by_cases c3 : 224 ≤ b0 ∧ b0 < 240
  · rw [decN3 c3] at hv ⊢
    split
    · rename_i h; have := h.2; simp only []; omega
    · rename_i h; rw [if_neg h] at hv; exact absurd ⟨rfl, rfl⟩ hv
  by_cases c4 : 240 ≤ b0 ∧ b0 < 248
  · rw [decN4 c4] at hv ⊢
    split
    · rename_i h; have := h.2; simp only []; omega
    · rename_i h; rw [if_neg h] at hv; exact absurd ⟨rfl, rfl⟩ hv
  rw [decN0 (by omega) (by omega) (by omega)] at hv
  exact absurd ⟨rfl, rfl⟩ hv
def u8s (l : List UInt8) : List Int := l.map fun b => (b.toNat : Int)
theorem bytes_back (l : List Int) (h : ∀ x ∈ l, 0 ≤ x ∧ x < 256) : u8s (l.map fun x => x.toNat.toUInt8) = l := by
  unfold u8s
  rw [List.map_map]
  conv => rhs; rw [← List.map_id l]
  apply List.map_congr_left
  intro x hx
  have := h x hx
  simp only [Function.comp, id, Nat.toUInt8, UInt8.toNat_ofNat']
  omega
theorem enc_dec (l : List UInt8) (hne : l ≠ []) (hv : ¬ ((Lib.decodeL l).1 = 65533 ∧ (Lib.decodeL l).2 = 1)) : enc ((Lib.decodeL l).1 : Int) = u8s (l.take (Lib.decodeL l).2) := by
  have h := Lib.encode_decode l hne hv
  have hc := dec_char l hv
  unfold Lib.encodeRune at h
  rw [enc_Z hc] at h
  rw [← h, bytes_back _ (enc_range hc)]
def flat (l : List Int) : List Int := l.flatMap enc
theorem flat_nil : flat [] = [] := rfl
theorem flat_cons (r : Int) (l : List Int) : flat (r :: l) = enc r ++ flat l := by simp [flat]
theorem valid_flat : ∀ (n : Nat) (l : List UInt8), l.length ≤ n → Lib.validGoD n l = true → (∀ r ∈ impl_Runes.from n l, isChar r = true) ∧ flat (impl_Runes.from n l) = u8s l
  | 0, l, hn, _ => by
    obtain rfl : l = [] := List.length_eq_zero_iff.1 (by omega)
    simp [impl_Runes.from, flat, u8s]
  | n + 1, l, hn, h => by
    by_cases e : l = []
    · subst e; simp [impl_Runes.from, flat, u8s]
    · rw [Lib.validGoD, if_neg e] at h
      by_cases c : (Lib.decodeL l).1 = 65533 ∧ (Lib.decodeL l).2 = 1
      · rw [if_pos c] at h; cases h
      · rw [if_neg c] at h
        have hw := Lib.decodeL_width l
        have ih := valid_flat n (l.drop (Lib.decodeL l).2) (by rw [List.length_drop]; omega) h
        rw [impl_Runes.from, if_neg e]
        refine ⟨fun r hr => ?_, ?_⟩
        · rcases List.mem_cons.1 hr with e2 | e2
          · rw [e2]; exact dec_char l c
          · exact ih.1 r e2
        · rw [flat_cons, ih.2, enc_dec l e c]
          unfold u8s
          rw [← List.map_append, List.take_append_drop]
theorem ofR_all : ∀ (l acc : List Int), (∀ r ∈ l, isChar r = true) → (acc ++ flat l).length ≤ 20000 → ofR l acc = (strOfNums (acc ++ flat l), true)
  | [], acc, _, h => by
    rw [flat_nil, List.append_nil] at h ⊢
    rw [ofR, if_neg (by omega)]
  | r :: l, acc, hc, h => by
    rw [flat_cons, ← List.append_assoc] at h ⊢
    have := ofR_all l (acc ++ enc r) (fun x hx => hc x (List.mem_cons_of_mem _ hx)) h
    rw [ofR, if_pos (hc r (List.mem_cons_self ..)), if_neg (by rw [List.length_append, List.length_append] at h; omega), this]
theorem ofR_good : ∀ (l acc : List Int), (ofR l acc).2 = true → (∀ r ∈ l, isChar r = true) ∧ (acc ++ flat l).length ≤ 20000
  | [], acc, h => by
    refine ⟨fun r hr => absurd hr (by simp), ?_⟩
    rw [ofR] at h
    rw [flat_nil, List.append_nil]
    by_cases c : (acc.length : Int) > 20000
    · rw [if_pos c] at h; cases h
    · omega
  | r :: l, acc, h => by
    rw [ofR] at h
    by_cases c : isChar r = true
    · rw [if_pos c] at h
      by_cases d : (acc.length : Int) > 20000
      · rw [if_pos d] at h; cases h
      · rw [if_neg d] at h
        have := ofR_good l (acc ++ enc r) h
        refine ⟨fun x hx => ?_, by rw [flat_cons, ← List.append_assoc]; exact this.2⟩
        rcases List.mem_cons.1 hx with e | e
        · rw [e]; exact c
        · exact this.1 x e
    · rw [if_neg c] at h; cases h
def bts (l : List Int) : List UInt8 := l.map fun x => UInt8.ofNat x.toNat
theorem bts_toNat {x : Int} (h : 0 ≤ x ∧ x < 256) : (UInt8.ofNat x.toNat).toNat = x.toNat := by
  rw [UInt8.toNat_ofNat']
  omega
theorem decN1 {n b0 b1 b2 b3 : Nat} (h : b0 < 128) : Lib.decodeN n b0 b1 b2 b3 = (b0, 1) := by unfold Lib.decodeN; rw [if_pos h]
theorem dec_enc {r : Int} (h : isChar r = true) (t : List UInt8) : Lib.decodeL (bts (enc r) ++ t) = (r.toNat, (enc r).length) := by
  have hr := isChar_range h
  rw [Lib.decodeL_N]
  unfold enc bts
  by_cases c1 : r < 128
  · rw [if_pos c1]
    simp only [List.map_cons, List.map_nil, List.cons_append, List.nil_append, List.getD_cons_zero, List.length_cons, List.length_nil]
    rw [bts_toNat (by omega), decN1 (by omega)]
  by_cases c2 : r < 2048
  · rw [if_neg c1, if_pos c2]
    simp only [List.map_cons, List.map_nil, List.cons_append, List.nil_append, List.getD_cons_zero, List.getD_cons_succ, List.length_cons, List.length_nil]
    rw [bts_toNat (x := 192 + r / 64) (by omega), bts_toNat (x := 128 + r % 64) (by omega), decN2 (by omega), if_pos ⟨⟨by omega, by omega⟩, by omega⟩]
    congr 1
    omega
  by_cases c3 : r < 65536
  · rw [if_neg c1, if_neg c2, if_pos c3]
    simp only [List.map_cons, List.map_nil, List.cons_append, List.nil_append, List.getD_cons_zero, List.getD_cons_succ, List.length_cons, List.length_nil]
    rw [bts_toNat (x := 224 + r / 4096) (by omega), bts_toNat (x := 128 + r / 64 % 64) (by omega), bts_toNat (x := 128 + r % 64) (by omega), decN3 (by omega), if_pos ⟨⟨⟨by omega, by omega⟩, by omega, by omega⟩, by omega, by omega⟩]
    congr 1
    omega
  · rw [if_neg c1, if_neg c2, if_neg c3]
    simp only [List.map_cons, List.map_nil, List.cons_append, List.nil_append, List.getD_cons_zero, List.getD_cons_succ, List.length_cons, List.length_nil]
    rw [bts_toNat (x := 240 + r / 262144) (by omega), bts_toNat (x := 128 + r / 4096 % 64) (by omega), bts_toNat (x := 128 + r / 64 % 64) (by omega), bts_toNat (x := 128 + r % 64) (by omega), decN4 (by omega), if_pos ⟨⟨⟨by omega, by omega⟩, ⟨by omega, by omega⟩, by omega, by omega⟩, by omega, by omega⟩]
    congr 1
    omega
theorem enc_one {r : Int} (h : (enc r).length = 1) : r < 128 := by
  unfold enc at h
  by_cases c : r < 128
  · exact c
  · exfalso
    rw [if_neg c] at h
    split at h
    · simp at h
    · split at h <;> simp at h
theorem runes_flat : ∀ (m : List Int) (n : Nat), (∀ r ∈ m, isChar r = true) → (flat m).length ≤ n → Lib.validGoD n (bts (flat m)) = true ∧ impl_Runes.from n (bts (flat m)) = m
  | [], n, _, _ => by cases n <;> simp [flat, bts, Lib.validGoD, impl_Runes.from]
  | r :: m, n, hc, hn => by
    have hr := hc r (List.mem_cons_self ..)
    have hl := enc_length r
    rw [flat_cons, List.length_append] at hn
    obtain ⟨n, rfl⟩ : ∃ k, n = k + 1 := ⟨n - 1, by omega⟩
    have ih := runes_flat m n (fun x hx => hc x (List.mem_cons_of_mem _ hx)) (by omega)
    have e : bts (flat (r :: m)) = bts (enc r) ++ bts (flat m) := by rw [flat_cons]; unfold bts; rw [List.map_append]
    have hb : (bts (enc r)).length = (enc r).length := by unfold bts; rw [List.length_map]
    have hne : ¬ bts (enc r) ++ bts (flat m) = [] := by
      intro h
      have := congrArg List.length h
      rw [List.length_append, hb, List.length_nil] at this
      omega
    have hd := dec_enc hr (bts (flat m))
    have hdrop : (bts (enc r) ++ bts (flat m)).drop (enc r).length = bts (flat m) := by rw [← hb, List.drop_left]
    have hnn : 0 ≤ r := by have := isChar_range hr; omega
    rw [e, Lib.validGoD, impl_Runes.from, if_neg hne, if_neg hne, hd]
    simp only []
    rw [hdrop, if_neg (fun h => by have := enc_one h.2; omega), ih.2, Int.toNat_of_nonneg hnn]
    exact ⟨ih.1, rfl⟩
theorem str_back (s : ByteArray) : strOfNums (u8s s.data.toList) = s := by
  apply ByteArray.ext
  apply Array.ext'
  rw [strOfNums_data]
  unfold u8s
  rw [List.map_map]
  conv => rhs; rw [← List.map_id s.data.toList]
  apply List.map_congr_left
  intro x _
  simp
theorem runes_there (s : ByteArray) (h : (runesOf s).2 = true) : ofR (runesOf s).1 [] = (s, true) ∧ (runesOf s).1.length ≤ s.size := by
  unfold runesOf at h ⊢
  by_cases c : (s.size : Int) > 20000
  · rw [if_pos c] at h; cases h
  rw [if_neg c] at h ⊢
  unfold runesR at h ⊢
  by_cases d : Lib.validGoD s.data.toList.length s.data.toList = true
  · rw [if_pos d]
    simp only [List.nil_append]
    have hv := valid_flat _ _ (Nat.le_refl _) d
    have hlen := runes_length s.data.toList.length s.data.toList
    rw [data_length] at hlen
    have e : ([] : List Int) ++ flat (impl_Runes.from s.data.toList.length s.data.toList) = u8s s.data.toList := by rw [List.nil_append]; exact hv.2
    have hle : (u8s s.data.toList).length ≤ 20000 := by unfold u8s; rw [List.length_map, data_length]; omega
    refine ⟨?_, by rw [data_length]; exact hlen⟩
    rw [ofR_all _ _ hv.1 (by rw [e]; exact hle), e, str_back]
  · rw [if_neg d] at h; cases h
theorem runes_back (m : List Int) (h : (ofR m []).2 = true) : runesOf (ofR m []).1 = (m, true) := by
  have hg := ofR_good m [] h
  rw [ofR_all m [] hg.1 hg.2]
  rw [List.nil_append] at hg
  simp only [List.nil_append]
  have e : (strOfNums (flat m)).data.toList = bts (flat m) := by rw [strOfNums_data]; rfl
  unfold runesOf
  rw [if_neg (by rw [strOfNums_size]; omega), e]
  unfold runesR
  have hr := runes_flat m (bts (flat m)).length hg.1 (by unfold bts; rw [List.length_map]; exact Nat.le_refl _)
  rw [if_pos hr.1, hr.2]
  rfl
end Go.Proofs.YtomfhenoblfckaaDoor.PR
