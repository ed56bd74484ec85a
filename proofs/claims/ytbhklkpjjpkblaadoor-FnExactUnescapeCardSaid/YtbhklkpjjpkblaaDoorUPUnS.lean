/- Texts with their signs taken back: the reference's walk and the program's come to that function. -/
import Derived.Test.YtbhklkpjjpkblaaDoorPUx2
import Derived.Test.YtbhklkpjjpkblaaDoorPUx3
import Derived.Test.YtbhklkpjjpkblaaDoorPUx4
import Derived.Test.YtbhklkpjjpkblaaDoorUPBase
import Derived.Test.YtbhklkpjjpkblaaDoorUPIn
import Derived.Test.YtbhklkpjjpkblaaDoorUPRunes
import Derived.Test.YtbhklkpjjpkblaaDoorUPPlain
import Derived.Test.YtbhklkpjjpkblaaDoorUPBytes
import Derived.Test.YtbhklkpjjpkblaaDoorUPUnL
import Derived.Lib.ParseIntBCases
import Derived.Lib.Strings
namespace Go.Proofs.YtbhklkpjjpkblaaDoor.PU
open Go.RowKit Go.Proofs.YtbhklkpjjpkblaaDoorW.PrintWords Go.Proofs.YtbhklkpjjpkblaaDoorW.PrintMore
set_option linter.unusedVariables false
set_option linter.unusedSimpArgs false
theorem bt_u8 (s : ByteArray) (i : Nat) (h : i < s.data.toList.length) : bt s (i : Int) = (s.data.toList[i].toNat : Int) := by
  rw [← rd_bytesOf]
  unfold rd bytesOf
  have h' : i < s.data.size := by simpa using h
  simp [List.getD_eq_getElem?_getD, Array.getElem?_eq_getElem h']
theorem ext_list (s : ByteArray) (a b : Nat) : (s.extract a b).data.toList = (s.data.toList.take b).drop a := by
  rw [Lib.extract_data, List.drop_take]
theorem ext_tail (s : ByteArray) (a : Nat) : (s.extract a s.size).data.toList = s.data.toList.drop a := by
  rw [ext_list, List.take_of_length_le (by rw [data_length]; exact Nat.le_refl _)]
theorem ext_head (s : ByteArray) (b : Nat) : (s.extract 0 b).data.toList = s.data.toList.take b := by
  rw [ext_list, List.drop_zero]
theorem digit_eq (x : Int) : spec_l1Digit.f x = some (decide (48 ≤ x ∧ x ≤ 57)) := by
  unfold spec_l1Digit.f
  by_cases h1 : x ≥ 48
  · by_cases h2 : x ≤ 57
    · first | (simp [h1, h2]; done) | (simp [h1, h2]; omega)
    · simp [h1, h2]
  · simp [h1]
def noS : ByteArray × Int := ((⟨#[]⟩ : ByteArray), 0)
/-- The reference's sum of digits. -/
theorem ref_l1_ev (e : Int) (w : ByteArray) (hw : w.size ≤ 8) : ∀ d n (acc : Nat), n + d = w.size → acc < 10 ^ n → Ev (fun k => spec_l2Ref.l1 k e w (acc : Int) (n : Int)) (if (w.data.toList.drop n).all isD = true ∧ charB (numL acc (w.data.toList.drop n) : Nat) = true then (strOfNums (enc (numL acc (w.data.toList.drop n) : Nat)), wrap64 (e + 1)) else noS)
  | 0, n, acc, hn, ha => by
    have hd : w.data.toList.drop n = [] := List.drop_eq_nil_of_le (by rw [data_length]; omega)
    rw [hd, show numL acc [] = acc from rfl]
    refine Ev.later fun k => ?_
    simp only [spec_l2Ref.l1]
    rw [if_neg (cast_nlt (by omega)), spec_CharOk_eq, Option.bind_some]
    by_cases hc : charB (acc : Int) = true
    · rw [if_pos hc, l1Bytes_eq hc, Option.bind_some, if_pos ⟨rfl, hc⟩]
    · rw [if_neg hc, if_neg (fun h => hc h.2)]
      rfl
  | d + 1, n, acc, hn, ha => by
    have h2 : n < w.data.toList.length := by rw [data_length]; omega
    have hb := bt_u8 w n h2
    have hlt := UInt8.toNat_lt (w.data.toList[n])
    have hp : 10 ^ n ≤ 10 ^ 8 := Nat.pow_le_pow_right (by decide) (by omega)
    have hp8 : (10 : Nat) ^ 8 = 100000000 := by decide
    have hp1 : 10 ^ (n + 1) = 10 ^ n * 10 := Nat.pow_succ ..
    rw [List.drop_eq_getElem_cons h2, List.all_cons, numL_cons]
    by_cases hd : 48 ≤ w.data.toList[n].toNat ∧ w.data.toList[n].toNat ≤ 57
    · have hi : isD w.data.toList[n] = true := decide_eq_true hd
      have ih := ref_l1_ev e w hw d (n + 1) (acc * 10 + (w.data.toList[n].toNat - 48)) (by omega) (by rw [hp1]; omega)
      rw [hi, Bool.true_and]
      refine Ev.step (fun k => ?_) ih
      simp only [spec_l2Ref.l1]
      rw [if_pos (cast_lt (by omega)), if_pos (show (0 : Int) ≤ (n : Int) by omega), digit_eq, Option.bind_some, hb, if_pos (by rw [decide_eq_true_eq]; omega), w64 (x := (acc : Int) * 10) (by omega) (by omega),
        show (((w.data.toList[n].toNat : Nat) : Int) - 48) % 256 = ((w.data.toList[n].toNat - 48 : Nat) : Int) by omega, w64 (x := (acc : Int) * 10 + ((w.data.toList[n].toNat - 48 : Nat) : Int)) (by omega) (by omega), wrap_succ (n := w.size) (by omega) (cast_lt (by omega)) (by omega)]
      congr 1
    · have hi : isD w.data.toList[n] = false := decide_eq_false hd
      rw [hi, Bool.false_and, if_neg (by simp)]
      refine Ev.later fun k => ?_
      simp only [spec_l2Ref.l1]
      rw [if_pos (cast_lt (by omega)), if_pos (show (0 : Int) ≤ (n : Int) by omega), digit_eq, Option.bind_some, hb, if_neg (by rw [decide_eq_true_eq]; omega)]
      rfl
def entR (w : List UInt8) (e : Int) : ByteArray × Int := match entL w with | some x => (x, e + 1) | none => noS
theorem ref_j2_ev (t : ByteArray) (ht : t.size ≤ 1048576) (e : Nat) (he : e ≤ t.size) (h8 : e ≤ 8) : Ev (fun k => spec_l2Ref.j2 k t (e : Int) false) (entR (t.data.toList.take e) (e : Int)) := by
  have hw : wrap64 ((e : Int) + 1) = (e : Int) + 1 := w64 (by omega) (by omega)
  have hl : (t.extract 0 e).data.toList = t.data.toList.take e := ext_head t e
  have hsz : (t.extract 0 e).size = e := by rw [← data_length, hl, List.length_take, data_length]; omega
  have hlen : (t.data.toList.take e).length = e := by rw [List.length_take, data_length]; omega
  have hT : (t.extract 0 e).toList = t.data.toList.take e := by rw [toList_eq']; exact hl
  have P : ∀ (f : Nat → Option (ByteArray × Int)) r, Ev f r → (∀ k, spec_l2Ref.j2 (k + 1) t (e : Int) false = f k) → Ev (fun k => spec_l2Ref.j2 k t (e : Int) false) r := fun f r h hk => Ev.step hk h
  generalize hW : t.extract 0 e = W at *
  unfold entR entL
  rw [hlen, ← hT]
  by_cases c1 : W.toList = [97, 109, 112]
  · refine P _ _ (Ev.now (_, _)) (fun k => ?_)
    simp only [spec_l2Ref.j2, Bool.false_eq_true, if_false]
    rw [if_pos (show (0 : Int) ≤ (e : Int) by omega), if_pos (show (e : Int) ≤ (t.size : Int) by omega), Int.toNat_natCast, hW, if_pos c1, if_pos c1, hw]
  by_cases c2 : W.toList = [108, 116]
  · refine P _ _ (Ev.now (_, _)) (fun k => ?_)
    simp only [spec_l2Ref.j2, Bool.false_eq_true, if_false]
    rw [if_pos (show (0 : Int) ≤ (e : Int) by omega), if_pos (show (e : Int) ≤ (t.size : Int) by omega), Int.toNat_natCast, hW, if_neg c1, if_pos c2, if_neg c1, if_pos c2, hw]
  by_cases c3 : W.toList = [103, 116]
  · refine P _ _ (Ev.now (_, _)) (fun k => ?_)
    simp only [spec_l2Ref.j2, Bool.false_eq_true, if_false]
    rw [if_pos (show (0 : Int) ≤ (e : Int) by omega), if_pos (show (e : Int) ≤ (t.size : Int) by omega), Int.toNat_natCast, hW, if_neg c1, if_neg c2, if_pos c3, if_neg c1, if_neg c2, if_pos c3, hw]
  by_cases c4 : W.toList = [113, 117, 111, 116]
  · refine P _ _ (Ev.now (_, _)) (fun k => ?_)
    simp only [spec_l2Ref.j2, Bool.false_eq_true, if_false]
    rw [if_pos (show (0 : Int) ≤ (e : Int) by omega), if_pos (show (e : Int) ≤ (t.size : Int) by omega), Int.toNat_natCast, hW, if_neg c1, if_neg c2, if_neg c3, if_pos c4, if_neg c1, if_neg c2, if_neg c3, if_pos c4, hw]
  by_cases c5 : W.toList = [97, 112, 111, 115]
  · refine P _ _ (Ev.now (_, _)) (fun k => ?_)
    simp only [spec_l2Ref.j2, Bool.false_eq_true, if_false]
    rw [if_pos (show (0 : Int) ≤ (e : Int) by omega), if_pos (show (e : Int) ≤ (t.size : Int) by omega), Int.toNat_natCast, hW, if_neg c1, if_neg c2, if_neg c3, if_neg c4, if_pos c5, if_neg c1, if_neg c2, if_neg c3, if_neg c4, if_pos c5, hw]
  have hjump : ∀ (b : Bool) R, Ev (fun k => spec_l2Ref.j3 k (e : Int) W b) R → ((W.size : Int) < 2 → b = true) → (¬ (W.size : Int) < 2 → b = (bt W 0 != 35)) → Ev (fun k => spec_l2Ref.j2 k t (e : Int) false) R := by
    intro b R hR h1 h2
    refine P _ _ hR (fun k => ?_)
    simp only [spec_l2Ref.j2, Bool.false_eq_true, if_false]
    rw [if_pos (show (0 : Int) ≤ (e : Int) by omega), if_pos (show (e : Int) ≤ (t.size : Int) by omega), Int.toNat_natCast, hW, if_neg c1, if_neg c2, if_neg c3, if_neg c4, if_neg c5]
    by_cases c : (W.size : Int) < 2
    · rw [if_pos c, h1 c]
    · rw [if_neg c, if_pos (by omega), h2 c]
  rw [if_neg c1, if_neg c2, if_neg c3, if_neg c4, if_neg c5]
  have bad : Ev (fun k => spec_l2Ref.j3 k (e : Int) W true) noS := Ev.later fun k => by simp only [spec_l2Ref.j3, if_true]; rfl
  have hWl : W.data.toList.length = e := by rw [data_length]; exact hsz
  have hTd : W.toList = W.data.toList := toList_eq' W
  by_cases c : e < 2
  · rw [if_neg (by rintro ⟨⟨_, h, _⟩, _⟩; omega)]
    exact hjump true _ bad (fun _ => rfl) (fun h => absurd (by omega) h)
  have h0 : 0 < W.data.toList.length := by omega
  have hb0 := bt_u8 W 0 h0
  have ht1 : W.data.toList.take 1 = [W.data.toList[0]] := by rw [List.take_succ_eq_append_getElem h0]; rfl
  by_cases c35 : W.data.toList[0] = 35
  · have hbt : (bt W 0 != 35) = false := by
      have : bt W 0 = 35 := by rw [show (0 : Int) = ((0 : Nat) : Int) from rfl, hb0, c35]; rfl
      rw [this]; rfl
    have hl1 := ref_l1_ev (e : Int) W (by omega) (e - 1) 1 0 (by omega) (by decide)
    rw [hw, ← hTd] at hl1
    have hpre : W.toList.take 1 = [35] ∧ 2 ≤ e ∧ e ≤ 8 := ⟨by rw [hTd, ht1, c35], by omega, h8⟩
    have hl2 : Ev (fun k => spec_l2Ref.l1 k (e : Int) W ((0 : Nat) : Int) ((1 : Nat) : Int)) (match (if (W.toList.take 1 = [35] ∧ 2 ≤ e ∧ e ≤ 8) ∧ ((W.toList.drop 1).all isD = true ∧ charB (numL 0 (W.toList.drop 1) : Nat) = true) then some (strOfNums (enc (numL 0 (W.toList.drop 1) : Nat))) else none : Option ByteArray) with
      | some x => (x, (e : Int) + 1)
      | none => noS) := by
      by_cases hr : (W.toList.drop 1).all isD = true ∧ charB (numL 0 (W.toList.drop 1) : Nat) = true
      · rw [if_pos ⟨hpre, hr⟩]
        rw [if_pos hr] at hl1
        exact hl1
      · rw [if_neg (fun h => hr h.2)]
        rw [if_neg hr] at hl1
        exact hl1
    refine hjump false _ (Ev.step (fun k => ?_) hl2) (fun h => absurd h (by omega)) (fun _ => hbt.symm)
    simp only [spec_l2Ref.j3, Bool.false_eq_true, if_false]
    rfl
  · have hbt : (bt W 0 != 35) = true := by
      rw [bne_iff_ne]
      intro h
      apply c35
      rw [show (0 : Int) = ((0 : Nat) : Int) from rfl, hb0] at h
      exact UInt8.toNat_inj.1 (by have : (35 : UInt8).toNat = 35 := rfl; omega)
    rw [if_neg (by
      rintro ⟨⟨h, _⟩, _⟩
      rw [hTd, ht1] at h
      exact c35 (List.cons.inj h).1)]
    exact hjump true _ bad (fun _ => rfl) (fun _ => hbt.symm)
def refL (l : List UInt8) : ByteArray × Int := if (upto 59 l).length < l.length ∧ (upto 59 l).length ≤ 8 then entR (upto 59 l) ((upto 59 l).length : Int) else noS
theorem ref_l0_ev (t : ByteArray) (ht : t.size ≤ 1048576) : ∀ d n, n + d = t.size → n + (upto 59 (t.data.toList.drop n)).length = (upto 59 t.data.toList).length → Ev (fun k => spec_l2Ref.l0 k t (n : Int)) (refL t.data.toList)
  | 0, n, hn, hu => by
    have hd : t.data.toList.drop n = [] := List.drop_eq_nil_of_le (by rw [data_length]; omega)
    rw [hd] at hu
    have hl : (upto 59 t.data.toList).length = n := by rw [← hu]; rfl
    have hr : refL t.data.toList = noS := by unfold refL; rw [if_neg (by rw [data_length]; omega)]
    rw [hr]
    refine Ev.step (f := fun k => spec_l2Ref.j1 k t (n : Int)) (fun k => ?_) (Ev.step (f := fun k => spec_l2Ref.j2 k t (n : Int) true) (fun k => ?_) (Ev.later fun k => ?_))
    · simp only [spec_l2Ref.l0]
      rw [if_neg (cast_nlt (by omega))]
    · simp only [spec_l2Ref.j1]
      rw [if_pos (by omega)]
    · simp only [spec_l2Ref.j2, if_true]
      rfl
  | d + 1, n, hn, hu => by
    have h2 : n < t.data.toList.length := by rw [data_length]; omega
    have hb := bt_u8 t n h2
    rw [List.drop_eq_getElem_cons h2, upto_cons] at hu
    by_cases c : t.data.toList[n] = 59
    · rw [if_pos c] at hu
      have hl : (upto 59 t.data.toList).length = n := by rw [← hu]; rfl
      have ht2 : t.data.toList.take n = upto 59 t.data.toList := by rw [upto_take 59 t.data.toList, hl]
      have hb9 : bt t (n : Int) = 59 := by rw [hb, c]; rfl
      refine Ev.step (f := fun k => spec_l2Ref.j1 k t (n : Int)) (fun k => ?_) ?_
      · simp only [spec_l2Ref.l0]
        rw [if_pos (cast_lt (by omega)), if_pos (show (0 : Int) ≤ (n : Int) by omega), if_pos hb9]
      · unfold refL
        rw [hl]
        by_cases h8 : n ≤ 8
        · rw [if_pos ⟨by omega, h8⟩, ← ht2]
          refine Ev.step (fun k => ?_) (ref_j2_ev t ht n (by omega) h8)
          simp only [spec_l2Ref.j1]
          rw [if_neg (by omega), decide_eq_false (by omega)]
        · rw [if_neg (by omega)]
          refine Ev.step (f := fun k => spec_l2Ref.j2 k t (n : Int) true) (fun k => ?_) (Ev.later fun k => ?_)
          · simp only [spec_l2Ref.j1]
            rw [if_neg (by omega), decide_eq_true (by omega)]
          · simp only [spec_l2Ref.j2, if_true]
            rfl
    · rw [if_neg c] at hu
      have hb9 : ¬ bt t (n : Int) = 59 := by
        rw [hb]
        intro h
        exact c (UInt8.toNat_inj.1 (by have : (59 : UInt8).toNat = 59 := rfl; omega))
      refine Ev.step (fun k => ?_) (ref_l0_ev t ht d (n + 1) (by omega) (by rw [← hu, List.length_cons]; omega))
      simp only [spec_l2Ref.l0]
      rw [if_pos (cast_lt (by omega)), if_pos (show (0 : Int) ≤ (n : Int) by omega), if_neg hb9, wrap_succ (n := t.size) (by omega) (cast_lt (by omega)) (by omega)]
      rfl
theorem ref_ev (t : ByteArray) (ht : t.size ≤ 1048576) : Ev (fun k => spec_l2Ref.f k t) (refL t.data.toList) := by
  unfold spec_l2Ref.f
  exact ref_l0_ev t ht t.size 0 (by omega) (by rw [List.drop_zero, Nat.zero_add])
def outU (acc : List UInt8) (r : Option (List UInt8)) : ByteArray × Bool := match r with | some l => ((⟨(acc ++ l).toArray⟩ : ByteArray), true) | none => ((⟨#[]⟩ : ByteArray), false)
theorem outU_map (acc p : List UInt8) (r : Option (List UInt8)) : outU acc (r.map (p ++ ·)) = outU (acc ++ p) r := by
  cases r with
  | none => rfl
  | some l => simp [outU]
theorem mk_toList (x : ByteArray) : (⟨x.data.toList.toArray⟩ : ByteArray) = x := by
  apply bytes_ext
  simp
theorem spec_un_ev (s : ByteArray) (hs : s.size ≤ 1048576) : ∀ (m i : Nat) (acc : ByteArray), i ≤ s.size → s.size ≤ i + m → acc.size ≤ 4 * i → Ev (fun k => spec_Unescape.l0 k s acc (i : Int)) (outU acc.data.toList (un (s.data.toList.drop i))) := by
  intro m
  induction m with
  | zero =>
    intro i acc hi hm ha
    have hd : s.data.toList.drop i = [] := List.drop_eq_nil_of_le (by rw [data_length]; omega)
    rw [hd, un_nil]
    refine Ev.later fun k => ?_
    simp only [spec_Unescape.l0]
    rw [if_neg (cast_nlt (by omega))]
    simp only [outU, List.append_nil]
  | succ m ih =>
    intro i acc hi hm ha
    by_cases c : i < s.size
    rotate_left
    · have hd : s.data.toList.drop i = [] := List.drop_eq_nil_of_le (by rw [data_length]; omega)
      rw [hd, un_nil]
      refine Ev.later fun k => ?_
      simp only [spec_Unescape.l0]
      rw [if_neg (cast_nlt (by omega))]
      simp only [outU, List.append_nil]
    have h2 : i < s.data.toList.length := by rw [data_length]; omega
    have hb := bt_u8 s i h2
    have w1 : wrap64 ((i : Int) + 1) = ((i + 1 : Nat) : Int) := by rw [wrap_succ (n := s.size) (by omega) (cast_lt (by omega)) (by omega)]; rfl
    rw [List.drop_eq_getElem_cons h2, un_cons]
    by_cases c60 : s.data.toList[i] = 60
    · rw [if_pos c60]
      have hb2 : bt s (i : Int) = 60 := by rw [hb, c60]; rfl
      refine Ev.later fun k => ?_
      simp only [spec_Unescape.l0]
      rw [if_pos (cast_lt (by omega)), if_pos (show (0 : Int) ≤ (i : Int) by omega), if_pos hb2]
      rfl
    have nb : ∀ c : UInt8, ¬ s.data.toList[i] = c → ¬ bt s (i : Int) = (c.toNat : Int) := by
      intro c hc h
      rw [hb] at h
      exact hc (UInt8.toNat_inj.1 (by omega))
    have hb60 : ¬ bt s (i : Int) = 60 := nb 60 c60
    rw [if_neg c60]
    by_cases c38 : s.data.toList[i] = 38
    · rw [if_pos c38]
      have hb2 : bt s (i : Int) = 38 := by rw [hb, c38]; rfl
      have hl := ext_tail s (i + 1)
      have href := ref_ev (s.extract (i + 1) s.size) (by rw [ByteArray.size_extract]; omega)
      rw [hl] at href
      generalize hL : s.data.toList.drop (i + 1) = L at *
      have hLlen : L.length = s.size - (i + 1) := by rw [← hL, List.length_drop, data_length]
      refine Ev.step (f := fun k => (spec_l2Ref.f k (s.extract (i + 1) s.size)).bind fun bt137 => (if bt137.2 = 0 then (some ((⟨#[]⟩ : ByteArray), false)) else (if acc.size + bt137.1.size ≤ 9223372036854775807 then (spec_Unescape.l0 k s (acc ++ bt137.1) (wrap64 (((i + 1 : Nat) : Int) + bt137.2))) else (none)))) (fun k => ?_) ?_
      · simp only [spec_Unescape.l0]
        rw [if_pos (cast_lt (by omega)), if_pos (show (0 : Int) ≤ (i : Int) by omega), if_neg hb60, if_pos hb2, w1, if_pos (show (0 : Int) ≤ ((i + 1 : Nat) : Int) by omega), if_pos (show ((i + 1 : Nat) : Int) ≤ (s.size : Int) by omega), Int.toNat_natCast]
      refine Ev.bind href ?_
      unfold refL
      by_cases cc : (upto 59 L).length < L.length ∧ (upto 59 L).length ≤ 8
      · rw [if_pos cc, if_pos cc]
        unfold entR
        cases hx : entL (upto 59 L) with
        | none =>
          simp only [noS, if_true]
          exact Ev.now _
        | some x =>
          have hx4 := entL_size hx
          simp only []
          simp only [show ¬ ((upto 59 L).length : Int) + 1 = 0 by omega, show acc.size + x.size ≤ 9223372036854775807 by omega, if_true, if_false]
          rw [w64 (x := ((i + 1 : Nat) : Int) + (((upto 59 L).length : Int) + 1)) (by omega) (by omega), show ((i + 1 : Nat) : Int) + (((upto 59 L).length : Int) + 1) = ((i + 1 + ((upto 59 L).length + 1) : Nat) : Int) by omega, outU_map, ← append_list, ← hL, List.drop_drop]
          rw [hL]
          exact ih (i + 1 + ((upto 59 L).length + 1)) (acc ++ x) (by omega) (by omega) (by rw [ByteArray.size_append]; omega)
      · rw [if_neg cc, if_neg cc]
        simp only [noS, if_true]
        exact Ev.now _
    · rw [if_neg c38]
      have hb38 : ¬ bt s (i : Int) = 38 := nb 38 c38
      have hone : (s.extract i (i + 1)).data.toList = [s.data.toList[i]] := by
        rw [ext_list, List.take_succ_eq_append_getElem h2, List.drop_append_of_le_length (by rw [List.length_take]; omega), List.drop_eq_nil_of_le (by rw [List.length_take]; omega)]
        rfl
      have hsz : (s.extract i (i + 1)).size = 1 := by rw [← data_length, hone]; rfl
      have h := ih (i + 1) (acc ++ s.extract i (i + 1)) (by omega) (by omega) (by rw [ByteArray.size_append, hsz]; omega)
      rw [append_list, hone, ← outU_map] at h
      refine Ev.step (fun k => ?_) h
      simp only [spec_Unescape.l0]
      rw [if_pos (cast_lt (by omega)), if_pos (show (0 : Int) ≤ (i : Int) by omega), if_neg hb60, if_neg hb38, w1, if_pos (show (i : Int) ≤ ((i + 1 : Nat) : Int) by omega), if_pos (show ((i + 1 : Nat) : Int) ≤ (s.size : Int) by omega), Int.toNat_natCast, Int.toNat_natCast, if_pos (by rw [hsz]; omega)]
end Go.Proofs.YtbhklkpjjpkblaaDoor.PU
