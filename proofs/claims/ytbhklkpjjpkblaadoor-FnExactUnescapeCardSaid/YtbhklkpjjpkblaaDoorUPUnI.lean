/- Texts with their signs taken back: the program's walk, cut by cut. -/
import Derived.Test.YtbhklkpjjpkblaaDoorPUx4
import Derived.Test.YtbhklkpjjpkblaaDoorPUx5
import Derived.Test.YtbhklkpjjpkblaaDoorUPBase
import Derived.Test.YtbhklkpjjpkblaaDoorUPIn
import Derived.Test.YtbhklkpjjpkblaaDoorUPRunes
import Derived.Test.YtbhklkpjjpkblaaDoorUPPlain
import Derived.Test.YtbhklkpjjpkblaaDoorUPBytes
import Derived.Test.YtbhklkpjjpkblaaDoorUPUnL
import Derived.Test.YtbhklkpjjpkblaaDoorUPUnS
import Derived.Lib.ParseIntBCases
import Derived.Lib.Strings
namespace Go.Proofs.YtbhklkpjjpkblaaDoor.PU
open Go.RowKit Go.Proofs.YtbhklkpjjpkblaaDoorW.PrintWords Go.Proofs.YtbhklkpjjpkblaaDoorW.PrintMore
set_option linter.unusedVariables false
set_option linter.unusedSimpArgs false
theorem mk_data (l : List UInt8) : (⟨l.toArray⟩ : ByteArray).data.toList = l := by simp
theorem mk_size (l : List UInt8) : (⟨l.toArray⟩ : ByteArray).size = l.length := by rw [← data_length, mk_data]
theorem one_index (s : ByteArray) (c : UInt8) : stringslite_Index.f s (⟨#[c]⟩ : ByteArray) = some (Lib.indexByte s.data.toList c) := by
  unfold stringslite_Index.f
  rw [if_pos (by rfl)]
  by_cases e : (⟨#[c]⟩ : ByteArray).toList = s.toList
  · rw [if_pos e]
    have : s = ⟨#[c]⟩ := (bytes_inj e).symm
    subst this
    congr 1
    show 0 = Lib.indexByte [c] c
    simp [Lib.indexByte]
  · rw [if_neg e]
    unfold stringslite_IndexByte.f
    have h : bt (⟨#[c]⟩ : ByteArray) 0 = (c.toNat : Int) := bt_u8 (⟨#[c]⟩ : ByteArray) 0 (by show 0 < 1; omega)
    rw [h, Int.toNat_natCast]
    congr 2
    exact UInt8.ofNat_toNat
theorem cut_eq (s : ByteArray) (c : UInt8) (hs : s.size ≤ 140737488351232) : strings_Cut.f s (⟨#[c]⟩ : ByteArray) = some (if (upto c s.data.toList).length < s.data.toList.length then ((⟨(upto c s.data.toList).toArray⟩ : ByteArray), (⟨(s.data.toList.drop ((upto c s.data.toList).length + 1)).toArray⟩ : ByteArray), true) else (s, (⟨#[]⟩ : ByteArray), false)) := by
  unfold strings_Cut.f stringslite_Cut.f
  rw [one_index, index_upto]
  have hz : s.data.toList.length = s.size := data_length s
  simp only [Option.bind_some]
  have h1 : (((⟨#[c]⟩ : ByteArray).size : Nat) : Int) = 1 := rfl
  by_cases h : (upto c s.data.toList).length < s.data.toList.length
  · rw [if_pos h, if_pos h, h1, w64 (x := ((upto c s.data.toList).length : Int) + 1) (by omega) (by omega), if_pos (show ((upto c s.data.toList).length : Int) ≥ 0 by omega), if_pos (show (0 : Int) ≤ ((upto c s.data.toList).length : Int) by omega), if_pos (show ((upto c s.data.toList).length : Int) ≤ (s.size : Int) by omega), if_pos (show (0 : Int) ≤ ((upto c s.data.toList).length : Int) + 1 by omega), if_pos (show ((upto c s.data.toList).length : Int) + 1 ≤ (s.size : Int) by omega), Option.bind_some]
    have e1 : s.extract 0 ((upto c s.data.toList).length : Int).toNat = (⟨(upto c s.data.toList).toArray⟩ : ByteArray) := by
      apply bytes_ext
      rw [ext_head, mk_data, Int.toNat_natCast, ← upto_take]
    have e2 : s.extract (((upto c s.data.toList).length : Int) + 1).toNat s.size = (⟨(s.data.toList.drop ((upto c s.data.toList).length + 1)).toArray⟩ : ByteArray) := by
      apply bytes_ext
      rw [ext_tail, mk_data, show (((upto c s.data.toList).length : Int) + 1).toNat = (upto c s.data.toList).length + 1 by omega]
    simp only [e1, e2]
  · rw [if_neg h, if_neg h, if_neg (by omega), Option.bind_some]
theorem upto_iff (c : UInt8) (l : List UInt8) : (upto c l).length < l.length ↔ c ∈ l := by
  constructor
  · intro h
    rw [upto_split c l h]
    simp
  · intro h
    by_cases hl : (upto c l).length < l.length
    · exact hl
    · have := upto_mem c l
      rw [upto_full c l hl] at this
      exact absurd rfl (this c h)
theorem contains_eq (s : ByteArray) (c : UInt8) : strings_Contains.f s (⟨#[c]⟩ : ByteArray) = some (decide (c ∈ s.data.toList)) := by
  unfold strings_Contains.f strings_Index.f
  rw [one_index, index_upto]
  simp only [Option.bind_some]
  congr 1
  by_cases h : (upto c s.data.toList).length < s.data.toList.length
  · rw [if_pos h, decide_eq_true ((upto_iff c _).1 h), decide_eq_true (by omega)]
  · rw [if_neg h, decide_eq_false (fun hm => h ((upto_iff c _).2 hm)), decide_eq_false (by omega)]
theorem prefix_eq (w : ByteArray) : strings_CutPrefix.f w (⟨#[35]⟩ : ByteArray) = some (if w.data.toList.take 1 = [35] then (w.extract 1 w.size, true) else (w, false)) := by
  unfold strings_CutPrefix.f stringslite_CutPrefix.f stringslite_HasPrefix.f
  have h1 : (((⟨#[35]⟩ : ByteArray).size : Nat) : Int) = 1 := rfl
  have h35 : (⟨#[35]⟩ : ByteArray).toList = [35] := by rw [toList_eq']
  rw [h1, h35]
  by_cases c : (w.size : Int) ≥ 1
  · rw [if_pos c, if_pos (by decide), if_pos (by omega)]
    have ht : (w.extract 0 (1 : Int).toNat).toList = w.data.toList.take 1 := by rw [toList_eq', show (1 : Int).toNat = 1 from rfl, ext_head]
    rw [ht]
    simp only [Option.bind_some]
    by_cases e : w.data.toList.take 1 = [35]
    · rw [if_pos e, e, if_pos (by decide), if_pos (by decide), if_pos (by omega)]
      rfl
    · rw [if_neg e, if_neg (by rw [beq_iff_eq]; exact e)]
      rfl
  · rw [if_neg c]
    have hn : w.data.toList = [] := List.eq_nil_of_length_eq_zero (by rw [data_length]; omega)
    rw [hn, if_neg (show ¬ ([] : List UInt8).take 1 = [35] by decide)]
    rfl
theorem parse_M : ∀ (l : List UInt8) (acc i : Nat), l.all isD = true → acc < 10 ^ i → i + l.length ≤ 8 → Lib.parseUintM (2 ^ 64 - 1) acc l = .ok (numL acc l)
  | [], acc, i, _, _, _ => by rw [Lib.parseUintM]; rfl
  | c :: l, acc, i, hd, ha, hi => by
    rw [List.all_cons, Bool.and_eq_true] at hd
    have hc : 48 ≤ c.toNat ∧ c.toNat ≤ 57 := of_decide_eq_true hd.1
    rw [List.length_cons] at hi
    have hp : 10 ^ i ≤ 10 ^ 8 := Nat.pow_le_pow_right (by decide) (by omega)
    have hp8 : (10 : Nat) ^ 8 = 100000000 := by decide
    have hp1 : 10 ^ (i + 1) = 10 ^ i * 10 := Nat.pow_succ ..
    rw [Lib.parseUintM, if_pos hc, if_neg (by omega), if_neg (by omega), numL_cons]
    exact parse_M l _ (i + 1) hd.2 (by rw [hp1]; omega) (by omega)
theorem numL_lt : ∀ (l : List UInt8) (acc i : Nat), l.all isD = true → acc < 10 ^ i → numL acc l < 10 ^ (i + l.length)
  | [], acc, i, _, ha => by show acc < _; rw [List.length_nil, Nat.add_zero]; exact ha
  | c :: l, acc, i, hd, ha => by
    rw [List.all_cons, Bool.and_eq_true] at hd
    have hc : 48 ≤ c.toNat ∧ c.toNat ≤ 57 := of_decide_eq_true hd.1
    have hp1 : 10 ^ (i + 1) = 10 ^ i * 10 := Nat.pow_succ ..
    have := numL_lt l (acc * 10 + (c.toNat - 48)) (i + 1) hd.2 (by rw [hp1]; omega)
    rw [numL_cons, List.length_cons, show i + (l.length + 1) = i + 1 + l.length by omega]
    exact this
theorem parse_ok (l : List UInt8) (hn : l ≠ []) (hd : l.all isD = true) (h8 : l.length ≤ 8) : Lib.parseIntB 64 l = .ok (numL 0 l : Nat) := by
  cases l with
  | nil => exact absurd rfl hn
  | cons c l =>
    have hm := parse_M (c :: l) 0 0 hd (by decide) (by omega)
    have hlt := numL_lt (c :: l) 0 0 hd (by decide)
    have hp : 10 ^ (0 + (c :: l).length) ≤ 10 ^ 8 := Nat.pow_le_pow_right (by decide) (by omega)
    have hp8 : (10 : Nat) ^ 8 = 100000000 := by decide
    have hd' := hd
    rw [List.all_cons, Bool.and_eq_true] at hd'
    have hc : 48 ≤ c.toNat ∧ c.toNat ≤ 57 := of_decide_eq_true hd'.1
    rw [Lib.parseIntB_plain 64 _ _ (by omega) (by omega)]
    unfold Lib.parseUintB
    rw [if_neg (by simp), hm]
    unfold Lib.signlessC
    simp only []
    rw [if_neg (by omega)]
theorem dropWhile_nil {p : UInt8 → Bool} : ∀ {l : List UInt8}, l.dropWhile p = [] ↔ ∀ b ∈ l, p b = true
  | [] => by simp
  | b :: l => by
    rw [List.dropWhile_cons]
    cases h : p b with
    | true => simp [h, dropWhile_nil (l := l)]
    | false => simp [h]
theorem trimS_nil (l cs : List UInt8) : Lib.trimS l cs = [] ↔ ∀ b ∈ l, cs.contains b = true := by
  unfold Lib.trimS Lib.trimLeftS Lib.trimRightS
  constructor
  · intro h b hb
    have h2 := dropWhile_nil.1 h
    have hr : b ∈ l.reverse := List.mem_reverse.2 hb
    rw [← List.takeWhile_append_dropWhile (p := (cs.contains ·)) (l := l.reverse)] at hr
    rcases List.mem_append.1 hr with hr | hr
    · exact List.all_eq_true.1 List.all_takeWhile b hr
    · exact h2 b (List.mem_reverse.2 hr)
  · intro h
    have : l.reverse.dropWhile (cs.contains ·) = [] := dropWhile_nil.2 fun b hb => h b (List.mem_reverse.1 hb)
    rw [this]
    rfl
def tenB : List UInt8 := [48, 49, 50, 51, 52, 53, 54, 55, 56, 57]
theorem tenB_all : ∀ n : Fin 256, tenB.contains (UInt8.ofNat n.val) = decide (48 ≤ n.val ∧ n.val ≤ 57) := by decide +kernel
theorem tenB_isD (b : UInt8) : tenB.contains b = isD b := by
  have h := tenB_all ⟨b.toNat, b.toNat_lt⟩
  rw [show UInt8.ofNat b.toNat = b from UInt8.ofNat_toNat] at h
  exact h
theorem trim_eq (s : ByteArray) (hs : s.size ≤ 1048576) : ∃ T : ByteArray, strings_Trim.f s (⟨#[48, 49, 50, 51, 52, 53, 54, 55, 56, 57]⟩ : ByteArray) = some T ∧ (T.toList != ([] : List UInt8)) = !(s.data.toList.all isD) := by
  unfold strings_Trim.f
  rw [if_pos ⟨by omega, by decide, by decide⟩]
  refine ⟨_, rfl, ?_⟩
  rw [toList_eq', mk_data]
  have hiff : Lib.trimS s.data.toList tenB = [] ↔ s.data.toList.all isD = true := by
    rw [trimS_nil, List.all_eq_true]
    constructor
    · intro h b hb; rw [← tenB_isD]; exact h b hb
    · intro h b hb; rw [tenB_isD]; exact h b hb
  show (Lib.trimS s.data.toList tenB != []) = _
  cases h : s.data.toList.all isD with
  | true => rw [hiff.2 h]; rfl
  | false =>
    rw [Bool.not_false, bne_iff_ne]
    intro e
    rw [hiff.1 e] at h
    cases h
def badS : ByteArray × Bool := ((⟨#[]⟩ : ByteArray), false)
theorem wrap32_small {x : Int} (h0 : 0 ≤ x) (h1 : x ≤ 1114111) : wrap32 x = x := by unfold wrap32; omega
theorem entity_eq (w : ByteArray) (hw : w.size ≤ 1048576) : impl_entity.f 1 w = some (match entL w.data.toList with | some x => (x, true) | none => badS) := by
  unfold impl_entity.f entL
  rw [toList_eq' w]
  have hz : w.data.toList.length = w.size := data_length w
  by_cases c1 : w.data.toList = [97, 109, 112]
  · rw [if_pos c1, if_pos c1]
  rw [if_neg c1, if_neg c1]
  by_cases c2 : w.data.toList = [108, 116]
  · rw [if_pos c2, if_pos c2]
  rw [if_neg c2, if_neg c2]
  by_cases c3 : w.data.toList = [103, 116]
  · rw [if_pos c3, if_pos c3]
  rw [if_neg c3, if_neg c3]
  by_cases c4 : w.data.toList = [113, 117, 111, 116]
  · rw [if_pos c4, if_pos c4]
  rw [if_neg c4, if_neg c4]
  by_cases c5 : w.data.toList = [97, 112, 111, 115]
  · rw [if_pos c5, if_pos c5]
  rw [if_neg c5, if_neg c5, prefix_eq, Option.bind_some]
  have bad : ∀ x, impl_entity.j0 1 x true = some badS := fun x => by simp only [impl_entity.j0, if_true]; rfl
  by_cases c6 : w.data.toList.take 1 = [35]
  rotate_left
  · simp only [c6, if_false, Bool.false_eq_true]
    rw [bad]
    simp
  have hd : (w.extract 1 w.size).data.toList = w.data.toList.drop 1 := ext_tail w 1
  have hds : (w.extract 1 w.size).size = w.size - 1 := by rw [ByteArray.size_extract]; omega
  generalize w.extract 1 w.size = D at *
  have hDl : D.data.toList.length = D.size := data_length D
  simp only [c6, if_true]
  rw [toList_eq' D, hd]
  by_cases c7 : w.data.toList.drop 1 = []
  · rw [if_pos c7, bad, if_neg (by rintro ⟨⟨_, h, _⟩, _⟩; have := congrArg List.length c7; rw [List.length_drop] at this; simp only [List.length_nil] at this; omega)]
  rw [if_neg c7]
  by_cases c8 : (w.size : Int) > 8
  · rw [if_pos c8, bad, if_neg (by rintro ⟨⟨_, _, h⟩, _⟩; omega)]
  rw [if_neg c8]
  obtain ⟨T, hT, hT2⟩ := trim_eq D (by omega)
  rw [hT, Option.bind_some, hT2, hd]
  have hne : 1 ≤ (w.data.toList.drop 1).length := by
    rcases Nat.eq_zero_or_pos (w.data.toList.drop 1).length with h | h
    · exact absurd (List.eq_nil_of_length_eq_zero h) c7
    · exact h
  rw [List.length_drop] at hne
  have hpre : True ∧ 2 ≤ w.data.toList.length ∧ w.data.toList.length ≤ 8 := ⟨trivial, by omega, by omega⟩
  cases hall : (w.data.toList.drop 1).all isD with
  | false =>
    rw [Bool.not_false, bad, if_neg (by rintro ⟨_, h, _⟩; cases h)]
  | true =>
    have hlt := numL_lt (w.data.toList.drop 1) 0 0 hall (by decide)
    have hp : 10 ^ (0 + (w.data.toList.drop 1).length) ≤ 10 ^ 8 := Nat.pow_le_pow_right (by decide) (by rw [List.length_drop]; omega)
    have hp8 : (10 : Nat) ^ 8 = 100000000 := by decide
    simp only [impl_entity.j0, Bool.not_true, Bool.false_eq_true, if_false]
    unfold strconv_ParseInt.f
    rw [if_pos ⟨⟨rfl, rfl⟩, by omega⟩, hd, parse_ok _ c7 hall (by rw [List.length_drop]; omega)]
    simp only [Option.bind_some]
    rw [impl_CharOk_eq, Option.bind_some]
    by_cases hc : charB (numL 0 (w.data.toList.drop 1) : Nat) = true
    · have hr := charB_range hc
      rw [if_pos hc, wrap32_small (by omega) (by omega), encode_eq hc, if_pos ⟨hpre, trivial, hc⟩]
    · rw [if_neg hc, if_neg (fun h => hc h.2.2)]
      rfl
theorem impl_un_ev : ∀ (n : Nat) (t : ByteArray) (acc : List UInt8), t.size ≤ n → t.size ≤ 1048576 → (60 : UInt8) ∉ t.data.toList → acc.length + 4 * t.size ≤ 8000000 → Ev (fun k => impl_Unescape.l0 k t acc) (outU acc (un t.data.toList)) := by
  intro n
  induction n with
  | zero =>
    intro t acc hn ht h60 ha
    have hL : t.data.toList = [] := List.eq_nil_of_length_eq_zero (by rw [data_length]; omega)
    refine Ev.later fun k => ?_
    simp only [impl_Unescape.l0]
    rw [cut_eq t 38 (by omega), hL, if_neg (by simp), Option.bind_some]
    simp only []
    rw [if_pos (by omega), if_neg (by simp), hL]
    rfl
  | succ n ih =>
    intro t acc hn ht h60 ha
    have hz : t.data.toList.length = t.size := data_length t
    by_cases hf : (upto 38 t.data.toList).length < t.data.toList.length
    rotate_left
    · refine Ev.later fun k => ?_
      simp only [impl_Unescape.l0]
      rw [cut_eq t 38 (by omega), if_neg hf, Option.bind_some]
      simp only []
      rw [if_pos (by omega), if_neg (by simp)]
      have hu : un t.data.toList = some t.data.toList := by
        have h38 := upto_mem 38 t.data.toList
        rw [upto_full 38 _ hf] at h38
        have := un_skip t.data.toList [] (fun b hb => ⟨fun e => h60 (e ▸ hb), h38 b hb⟩)
        rw [List.append_nil, un_nil] at this
        rw [this]
        simp
      rw [hu]
      rfl
    have hs := upto_split 38 _ hf
    have h38 := upto_mem 38 t.data.toList
    generalize hp : upto 38 t.data.toList = p at *
    generalize hr : t.data.toList.drop (p.length + 1) = r at *
    have hlen : p.length + 1 + r.length = t.size := by
      have := congrArg List.length hs
      rw [List.length_append, List.length_cons] at this
      omega
    have hp60 : ∀ b ∈ p, b ≠ 60 ∧ b ≠ 38 := fun b hb => ⟨fun e => h60 (by rw [hs]; exact List.mem_append_left _ (e ▸ hb)), h38 b hb⟩
    have hr60 : (60 : UInt8) ∉ r := fun h => h60 (by rw [hs]; exact List.mem_append_right _ (List.mem_cons_of_mem _ h))
    rw [hs, un_skip p _ hp60, un_cons, if_neg (by decide), if_pos rfl, outU_map]
    refine Ev.step (f := fun k => ((strings_Cut.f (⟨r.toArray⟩ : ByteArray) (⟨#[59]⟩ : ByteArray)).bind fun c2 => ((impl_entity.f 1 c2.1).bind fun e => (if c2.2.2 = true then (if e.2 = true then (if acc.length + p.length + e.1.size ≤ 100000000 then (impl_Unescape.l0 k c2.2.1 ((acc ++ p) ++ e.1.data.toList)) else none) else (some ((⟨#[]⟩ : ByteArray), false))) else (some ((⟨#[]⟩ : ByteArray), false)))))) (fun k => ?_) ?_
    · simp only [impl_Unescape.l0]
      rw [cut_eq t 38 (by omega), hp, hr, if_pos hf, Option.bind_some]
      simp only [mk_size, mk_data]
      rw [if_pos (by omega), if_pos trivial]
    rw [cut_eq (⟨r.toArray⟩ : ByteArray) 59 (by rw [mk_size]; omega), mk_data]
    simp only [Option.bind_some]
    by_cases hq : (upto 59 r).length < r.length
    · simp only [hq, if_true, true_and]
      rw [entity_eq _ (by rw [mk_size]; omega), mk_data]
      simp only [Option.bind_some]
      cases hx : entL (upto 59 r) with
      | none =>
        simp only [badS, Bool.false_eq_true, if_false]
        have : (if (upto 59 r).length ≤ 8 then (none : Option (List UInt8)) else none) = none := by split <;> rfl
        rw [this]
        exact Ev.now _
      | some x =>
        have hx4 := entL_size hx
        have h8 : (upto 59 r).length ≤ 8 := by
          rcases Nat.lt_or_ge 8 (upto 59 r).length with h | h
          · rw [entL_long h] at hx; cases hx
          · exact h
        simp only [if_true, h8, show acc.length + p.length + x.size ≤ 100000000 by omega]
        rw [outU_map]
        have hd := ih (⟨(r.drop ((upto 59 r).length + 1)).toArray⟩ : ByteArray) ((acc ++ p) ++ x.data.toList) (by rw [mk_size, List.length_drop]; omega) (by rw [mk_size, List.length_drop]; omega) (by rw [mk_data]; exact fun h => hr60 (List.mem_of_mem_drop h)) (by rw [mk_size, List.length_drop, List.length_append, List.length_append, data_length]; omega)
        rw [mk_data] at hd
        exact hd
    · simp only [hq, if_false, false_and]
      rw [entity_eq _ (by rw [mk_size]; omega)]
      simp only [Option.bind_some, Bool.false_eq_true, if_false]
      exact Ev.now _
theorem unescape_ev (s : ByteArray) (hs : s.size ≤ 1048576) : Ev (fun k => spec_Unescape.f k s) (if textB s = true then outU [] (un s.data.toList) else badS) ∧ Ev (fun k => impl_Unescape.f k s) (if textB s = true then outU [] (un s.data.toList) else badS) := by
  constructor
  · unfold spec_Unescape.f
    refine Ev.bind (spec_l1Text_ev s) ?_
    cases textB s with
    | false => simp only [Bool.false_eq_true, if_false]; exact Ev.now _
    | true =>
      simp only [if_true]
      have := spec_un_ev s hs s.size 0 (⟨#[]⟩ : ByteArray) (by omega) (by omega) (by show 0 ≤ 0; omega)
      rw [List.drop_zero] at this
      exact this
  · unfold impl_Unescape.f
    refine Ev.bind (impl_isPlain_ev s) ?_
    cases textB s with
    | false => simp only [Bool.false_eq_true, if_false]; exact Ev.now _
    | true =>
      simp only [if_true]
      rw [contains_eq]
      simp only [Option.bind_some]
      by_cases h : (60 : UInt8) ∈ s.data.toList
      · rw [un_has60 _ _ (Nat.le_refl _) h]
        simp only [h, decide_true, if_true]
        exact Ev.now _
      · simp only [h, decide_false, Bool.false_eq_true, if_false]
        exact impl_un_ev s.size s [] (Nat.le_refl _) hs h (by simp; omega)
end Go.Proofs.YtbhklkpjjpkblaaDoor.PU
