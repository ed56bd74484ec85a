/- Texts with their signs written out: what the reference comes to, as a function of lists of bytes. -/
import Derived.Test.YtbhklkpjjpkblaaDoorPEx2
import Derived.Test.YtbhklkpjjpkblaaDoorPEx3
import Derived.Test.YtbhklkpjjpkblaaDoorEPBase
import Derived.Test.YtbhklkpjjpkblaaDoorEPIn
import Derived.Test.YtbhklkpjjpkblaaDoorEPRunes
import Derived.Test.YtbhklkpjjpkblaaDoorEPPlain
import Derived.Test.YtbhklkpjjpkblaaDoorEPBytes
import Derived.Lib.Strings
namespace Go.Proofs.YtbhklkpjjpkblaaDoor.PE
open Go.RowKit Go.Proofs.YtbhklkpjjpkblaaDoorW.PrintWords Go.Proofs.YtbhklkpjjpkblaaDoorW.PrintMore
set_option linter.unusedVariables false
set_option linter.unusedSimpArgs false
theorem bt_at (s : ByteArray) (i : Nat) (h : i < s.data.toList.length) : bt s (i : Int) = (s.data.toList[i].toNat : Int) := by
  rw [← rd_bytesOf]
  unfold rd bytesOf
  have h' : i < s.data.size := by simpa using h
  simp [List.getD_eq_getElem?_getD, Array.getElem?_eq_getElem h']
theorem one_at (s : ByteArray) (i : Nat) (h : i < s.data.toList.length) : s.extract i (i + 1) = (⟨#[s.data.toList[i]]⟩ : ByteArray) := by
  apply bytes_ext
  rw [Lib.extract_data, show i + 1 - i = 1 by omega, List.drop_eq_getElem_cons h]
  rfl
/-- What a byte is written as. -/
abbrev escB (attr : Bool) (b : UInt8) : ByteArray := impl_Escape.sign attr b
def escL (attr : Bool) (l : List UInt8) : List UInt8 := l.flatMap fun b => (escB attr b).data.toList
theorem escL_cons (attr : Bool) (b : UInt8) (l : List UInt8) : escL attr (b :: l) = (escB attr b).data.toList ++ escL attr l := by
  unfold escL
  rw [List.flatMap_cons]
theorem escB_size (attr : Bool) (b : UInt8) : (escB attr b).size ≤ 6 := by
  unfold escB impl_Escape.sign
  repeat' split
  all_goals (first | (show 5 ≤ 6; omega) | (show 4 ≤ 6; omega) | (show 6 ≤ 6; omega) | (show 1 ≤ 6; omega))
theorem spec_Esc_l0_ev (s : ByteArray) (hs : s.size ≤ 1048576) (attr : Bool) : ∀ (d n : Nat) (acc : ByteArray), n + d = s.size → acc.size ≤ 6 * n → Ev (fun k => spec_l2Escape.l0 k s attr acc (n : Int)) (⟨(acc.data.toList ++ escL attr (s.data.toList.drop n)).toArray⟩ : ByteArray)
  | 0, n, acc, hn, ha => by
    have hd : s.data.toList.drop n = [] := List.drop_eq_nil_of_le (by rw [data_length]; omega)
    rw [hd, show escL attr [] = [] from rfl, List.append_nil]
    refine Ev.later fun k => ?_
    simp only [spec_l2Escape.l0]
    rw [if_neg (cast_nlt (by omega))]
  | d + 1, n, acc, hn, ha => by
    have h2 : n < s.data.toList.length := by rw [data_length]; omega
    have hb := bt_at s n h2
    have he6 := escB_size attr s.data.toList[n]
    have ih := spec_Esc_l0_ev s hs attr d (n + 1) (acc ++ escB attr s.data.toList[n]) (by omega) (by rw [ByteArray.size_append]; omega)
    have hone := one_at s n h2
    rw [append_list, List.append_assoc, ← escL_cons, ← List.drop_eq_getElem_cons h2] at ih
    have w1 : wrap64 ((n : Int) + 1) = ((n + 1 : Nat) : Int) := by rw [wrap_succ (n := s.size) (by omega) (cast_lt (by omega)) (by omega)]; rfl
    have q1 : (n : Int) < (s.size : Int) := by omega
    have q2 : (0 : Int) ≤ (n : Int) := by omega
    generalize s.data.toList[n] = b at *
    generalize hR : (⟨(acc.data.toList ++ escL attr (s.data.toList.drop n)).toArray⟩ : ByteArray) = R at *
    clear hR
    by_cases c1 : (b.toNat : Int) = 38
    · have he : escB attr b = ⟨#[38, 97, 109, 112, 59]⟩ := by unfold escB impl_Escape.sign; rw [if_pos c1]
      rw [he] at ih
      refine Ev.step (fun k => ?_) ih
      simp only [spec_l2Escape.l0, hb]
      rw [if_pos q1, if_pos q2, if_pos c1, if_pos (by omega), w1]
    by_cases c2 : (b.toNat : Int) = 60
    · have he : escB attr b = ⟨#[38, 108, 116, 59]⟩ := by unfold escB impl_Escape.sign; rw [if_neg c1, if_pos c2]
      rw [he] at ih
      refine Ev.step (fun k => ?_) ih
      simp only [spec_l2Escape.l0, hb]
      rw [if_pos q1, if_pos q2, if_neg c1, if_pos c2, if_pos (by omega), w1]
    by_cases c3 : (b.toNat : Int) = 62
    · have he : escB attr b = ⟨#[38, 103, 116, 59]⟩ := by unfold escB impl_Escape.sign; rw [if_neg c1, if_neg c2, if_pos c3]
      rw [he] at ih
      refine Ev.step (fun k => ?_) ih
      simp only [spec_l2Escape.l0, hb]
      rw [if_pos q1, if_pos q2, if_neg c1, if_neg c2, if_pos c3, if_pos (by omega), w1]
    by_cases c4 : (b.toNat : Int) = 13
    · have he : escB attr b = ⟨#[38, 35, 49, 51, 59]⟩ := by unfold escB impl_Escape.sign; rw [if_neg c1, if_neg c2, if_neg c3, if_pos c4]
      rw [he] at ih
      refine Ev.step (fun k => ?_) ih
      simp only [spec_l2Escape.l0, hb]
      rw [if_pos q1, if_pos q2, if_neg c1, if_neg c2, if_neg c3, if_pos c4, if_pos (by omega), w1]
    refine Ev.step (f := fun k => spec_l2Escape.j1 k s attr acc (n : Int) (b.toNat : Int) (attr && ((b.toNat : Int) == 34))) (fun k => ?_) ?_
    · simp only [spec_l2Escape.l0, hb]
      rw [if_pos q1, if_pos q2, if_neg c1, if_neg c2, if_neg c3, if_neg c4]
      cases attr <;> rfl
    by_cases c5 : attr = true ∧ (b.toNat : Int) = 34
    · have he : escB attr b = ⟨#[38, 113, 117, 111, 116, 59]⟩ := by unfold escB impl_Escape.sign; rw [if_neg c1, if_neg c2, if_neg c3, if_neg c4, if_pos c5]
      rw [he] at ih
      refine Ev.step (fun k => ?_) ih
      simp only [spec_l2Escape.j1]
      rw [if_pos (by rw [c5.1, c5.2]; rfl), if_pos (by omega), w1]
    refine Ev.step (f := fun k => spec_l2Escape.j2 k s attr acc (n : Int) (b.toNat : Int) (attr && ((b.toNat : Int) == 9))) (fun k => ?_) ?_
    · simp only [spec_l2Escape.j1]
      rw [if_neg (by rw [Bool.and_eq_true, beq_iff_eq]; exact c5)]
      cases attr <;> rfl
    by_cases c6 : attr = true ∧ (b.toNat : Int) = 9
    · have he : escB attr b = ⟨#[38, 35, 57, 59]⟩ := by unfold escB impl_Escape.sign; rw [if_neg c1, if_neg c2, if_neg c3, if_neg c4, if_neg c5, if_pos c6]
      rw [he] at ih
      refine Ev.step (fun k => ?_) ih
      simp only [spec_l2Escape.j2]
      rw [if_pos (by rw [c6.1, c6.2]; rfl), if_pos (by omega), w1]
    by_cases c7 : attr = true ∧ (b.toNat : Int) = 10
    · have he : escB attr b = ⟨#[38, 35, 49, 48, 59]⟩ := by unfold escB impl_Escape.sign; rw [if_neg c1, if_neg c2, if_neg c3, if_neg c4, if_neg c5, if_neg c6, if_pos c7]
      rw [he] at ih
      refine Ev.step (fun k => ?_) ih
      simp only [spec_l2Escape.j2]
      rw [if_neg (by rw [Bool.and_eq_true, beq_iff_eq]; exact c6), if_pos c7.1, if_pos c7.2, if_pos (by omega), w1]
    have he : escB attr b = ⟨#[b]⟩ := by unfold escB impl_Escape.sign; rw [if_neg c1, if_neg c2, if_neg c3, if_neg c4, if_neg c5, if_neg c6, if_neg c7]
    rw [he] at ih
    refine Ev.step (fun k => ?_) ih
    have hsz : (⟨#[b]⟩ : ByteArray).size = 1 := rfl
    simp only [spec_l2Escape.j2, w1, Int.toNat_natCast, hone, hsz]
    rw [if_neg (by rw [Bool.and_eq_true, beq_iff_eq]; exact c6)]
    cases attr with
    | false => rw [if_neg (by decide), if_pos q2, if_pos (show (n : Int) ≤ ((n + 1 : Nat) : Int) by omega), if_pos (show ((n + 1 : Nat) : Int) ≤ (s.size : Int) by omega), if_pos (by omega)]
    | true => rw [if_pos rfl, if_neg (fun h => c7 ⟨rfl, h⟩), if_pos q2, if_pos (show (n : Int) ≤ ((n + 1 : Nat) : Int) by omega), if_pos (show ((n + 1 : Nat) : Int) ≤ (s.size : Int) by omega), if_pos (by omega)]
theorem escS_eq (attr : Bool) (s : ByteArray) : impl_Escape.out attr s = ⟨(escL attr s.data.toList).toArray⟩ := rfl
theorem spec_l2Escape_ev (s : ByteArray) (hs : s.size ≤ 1048576) (attr : Bool) : Ev (fun k => spec_l2Escape.f k s attr) (impl_Escape.out attr s) := by
  rw [escS_eq]
  unfold spec_l2Escape.f
  have := spec_Esc_l0_ev s hs attr s.size 0 (⟨#[]⟩ : ByteArray) (by omega) (by show 0 ≤ 0; omega)
  rw [List.drop_zero] at this
  exact this
theorem escape_ev (s : ByteArray) (attr : Bool) : ∃ r, Ev (fun k => spec_Escape.f k s attr) r ∧ Ev (fun k => impl_Escape.f k s attr) r := by
  unfold spec_Escape.f impl_Escape.f
  by_cases c : (s.size : Int) > 2500
  · simp only [c, if_true]
    exact ⟨_, Ev.now _, Ev.now _⟩
  simp only [c, if_false]
  refine ⟨if textB s = true then (impl_Escape.out attr s, true) else ((⟨#[]⟩ : ByteArray), false), ?_, ?_⟩
  · refine Ev.bind (spec_l1Text_ev s) ?_
    cases textB s with
    | false => simp only [Bool.false_eq_true, if_false]; exact Ev.now _
    | true =>
      simp only [if_true]
      refine Ev.bind (spec_l2Escape_ev s (by omega) attr) ?_
      exact Ev.now _
  · refine Ev.bind (impl_isPlain_ev s) ?_
    cases textB s with
    | false => simp only [Bool.false_eq_true, if_false]; exact Ev.now _
    | true => simp only [if_true]; exact Ev.now _
end Go.Proofs.YtbhklkpjjpkblaaDoor.PE
