/- Texts with their blanks made alike, or put together anew: the reference goes byte by byte, the program by the library's fields. -/
import Derived.Test.YtaliphegdclkfaaPWx1
import Derived.Test.YtaliphegdclkfaaWPBase
import Derived.Test.YtaliphegdclkfaaWPBytes
import Derived.Test.YtaliphegdclkfaaWPFields
namespace Go.Proofs.Ytaliphegdclkfaa.PW
open Go.RowKit Go.Proofs.YtaliphegdclkfaaW.PrintWords Go.Proofs.YtaliphegdclkfaaW.PrintMore
set_option linter.unusedVariables false
set_option linter.unusedSimpArgs false
theorem wbt (s : ByteArray) (i : Nat) (h : i < s.data.toList.length) : bt s (i : Int) = (s.data.toList[i].toNat : Int) := by
  rw [← rd_bytesOf]
  unfold rd bytesOf
  have h' : i < s.data.size := by simpa using h
  simp [List.getD_eq_getElem?_getD, Array.getElem?_eq_getElem h']
theorem wone (s : ByteArray) (i : Nat) (h : i < s.data.toList.length) : s.extract i (i + 1) = (⟨#[s.data.toList[i]]⟩ : ByteArray) := by
  apply bytes_ext
  rw [Lib.extract_data, show i + 1 - i = 1 by omega, List.drop_eq_getElem_cons h]
  rfl
def wk (l : List UInt8) : ByteArray := ⟨l.toArray⟩
theorem wk_data (l : List UInt8) : (wk l).data.toList = l := rfl
theorem wk_size (l : List UInt8) : (wk l).size = l.length := by
  show l.toArray.size = _
  rw [List.size_toArray]
theorem wk_append (a b : List UInt8) : wk a ++ wk b = wk (a ++ b) := by
  apply bytes_ext
  rw [append_list]
  rfl
theorem wk_nil (l : List UInt8) : ((wk l).toList = []) ↔ l = [] := by rw [toList_eq', wk_data]
theorem wk_of (s : ByteArray) : wk s.data.toList = s := by
  apply bytes_ext
  rfl
theorem words_blank (b : Nat) : spec_l7Blank.f (b : Int) = some (blankR b) := spec_White.blank b
theorem words_ev (s : ByteArray) (hs : s.size ≤ 1048576) : ∀ (d n : Nat) (out : List ByteArray) (cur : List UInt8), n + d = s.size → out.length ≤ n → cur.length ≤ n → Ev (fun k => spec_l7Words.l0 k s out (wk cur) (n : Int)) (out ++ (wordsL (s.data.toList.drop n) cur).map wk)
  | 0, n, out, cur, hn, ho, hc => by
    have hd : s.data.toList.drop n = [] := List.drop_eq_nil_of_le (by rw [data_length]; omega)
    have w1 : wrap64 ((n : Int) + 1) = ((n + 1 : Nat) : Int) := by rw [w64 (by omega) (by omega)]; rfl
    have fin : ∀ o : List ByteArray, Ev (fun k => spec_l7Words.l0 k s o (⟨#[]⟩ : ByteArray) ((n + 1 : Nat) : Int)) o := fun o => Ev.later fun k => by
      simp only [spec_l7Words.l0]
      rw [if_neg (by omega)]
    rw [hd, wordsL]
    refine Ev.step (f := fun k => spec_l7Words.j1 k s out (wk cur) (n : Int) false) (fun k => ?_) ?_
    · simp only [spec_l7Words.l0]
      rw [if_pos (by omega), if_neg (by omega)]
    by_cases hz : cur = []
    · rw [if_pos hz]
      have := fin out
      simp only [List.map_nil, List.append_nil]
      refine Ev.step (fun k => ?_) this
      simp only [spec_l7Words.j1]
      rw [if_neg (by decide), if_pos ((wk_nil cur).2 hz), w1]
    · rw [if_neg hz]
      have := fin (out ++ [wk cur])
      simp only [List.map_cons, List.map_nil]
      refine Ev.step (fun k => ?_) this
      simp only [spec_l7Words.j1]
      rw [if_neg (by decide), if_neg (fun h => hz ((wk_nil cur).1 h)), if_pos (by omega), w1]
  | d + 1, n, out, cur, hn, ho, hc => by
    have h2 : n < s.data.toList.length := by rw [data_length]; omega
    have hb := wbt s n h2
    have hone := wone s n h2
    have w1 : wrap64 ((n : Int) + 1) = ((n + 1 : Nat) : Int) := by rw [w64 (by omega) (by omega)]; rfl
    rw [List.drop_eq_getElem_cons h2, wordsL]
    generalize s.data.toList[n] = b at *
    have hbl := words_blank b.toNat
    refine Ev.step (f := fun k => spec_l7Words.j1 k s out (wk cur) (n : Int) (!(blankR b.toNat))) (fun k => ?_) ?_
    · simp only [spec_l7Words.l0]
      rw [if_pos (by omega), if_pos (by omega), if_pos (by omega), hb, hbl, Option.bind_some]
    cases hblb : blankR b.toNat with
    | true =>
      rw [if_pos rfl]
      by_cases hz : cur = []
      · rw [if_pos hz]
        have ih := words_ev s hs d (n + 1) out [] (by omega) (by omega) (by simp)
        refine Ev.step (fun k => ?_) ih
        simp only [spec_l7Words.j1]
        rw [if_neg (by decide), if_pos ((wk_nil cur).2 hz), w1]
        rfl
      · rw [if_neg hz]
        have ih := words_ev s hs d (n + 1) (out ++ [wk cur]) [] (by omega) (by simp; omega) (by simp)
        rw [List.append_assoc] at ih
        refine Ev.step (fun k => ?_) ih
        simp only [spec_l7Words.j1]
        rw [if_neg (by decide), if_neg (fun h => hz ((wk_nil cur).1 h)), if_pos (by omega), w1]
        rfl
    | false =>
      rw [if_neg (by decide)]
      have ih := words_ev s hs d (n + 1) out (cur ++ [b]) (by omega) (by omega) (by simp; omega)
      refine Ev.step (fun k => ?_) ih
      simp only [spec_l7Words.j1]
      have e : s.extract ((n : Int)).toNat (((n + 1 : Nat) : Int)).toNat = wk [b] := hone
      have hsz := wk_size cur
      have hsz2 := wk_size [b]
      rw [if_pos (by decide), if_pos (by omega), w1, if_pos (by omega), if_pos (by omega), e, if_pos (by rw [hsz, hsz2]; simp; omega), wk_append]
theorem words_all (s : ByteArray) (hs : s.size ≤ 1048576) : Ev (fun k => spec_l7Words.f k s) ((wordsL s.data.toList []).map wk) := by
  have h := words_ev s hs s.size 0 [] [] (by omega) (by simp) (by simp)
  unfold spec_l7Words.f
  exact h
theorem tail_len : ∀ (l cur : List UInt8), (Lib.joinTail [32] (wordsL l cur)).length ≤ 2 * l.length + cur.length + 1 ∧ (wordsL l cur).length ≤ l.length + 1
  | [], cur => by
    rw [wordsL]
    split
    · simp [Lib.joinTail]
    · simp [Lib.joinTail]
  | b :: l, cur => by
    have h1 := tail_len l []
    have h2 := tail_len l (cur ++ [b])
    rw [wordsL]
    simp only [List.length_nil, List.length_append, List.length_cons] at h1 h2
    split
    · split
      · simp only [List.length_cons]
        omega
      · have e : Lib.joinTail [32] (cur :: wordsL l []) = ([32] ++ cur) ++ Lib.joinTail [32] (wordsL l []) := by simp [Lib.joinTail]
        rw [e]
        simp only [List.length_append, List.length_cons, List.length_nil]
        omega
    · simp only [List.length_cons]
      omega
theorem join_tail (x : List (List UInt8)) : (Lib.join x [32]).length ≤ (Lib.joinTail [32] x).length := by
  cases x with
  | nil => simp [Lib.join_nil]
  | cons y r =>
    rw [Lib.join_cons]
    have e : Lib.joinTail [32] (y :: r) = ([32] ++ y) ++ Lib.joinTail [32] r := by simp [Lib.joinTail]
    rw [e]
    simp only [List.length_append, List.length_cons, List.length_nil]
    omega
theorem rd_drop (l : List ByteArray) (n : Nat) (h : n < l.length) : l.drop n = rdOf ByteArray.empty l (n : Int) :: l.drop (n + 1) := by
  rw [List.drop_eq_getElem_cons h]
  congr 1
  unfold rdOf
  simp [List.getD_eq_getElem?_getD, List.getElem?_eq_getElem h]
theorem jtail_cons (x : List UInt8) (r : List (List UInt8)) : Lib.joinTail [32] (x :: r) = ([32] ++ x) ++ Lib.joinTail [32] r := by simp [Lib.joinTail]
theorem join_ev (l : List ByteArray) (hl : l.length ≤ 100000000) : ∀ (d n : Nat) (acc : List UInt8), 1 ≤ n → n + d = l.length → acc.length + (Lib.joinTail [32] ((l.drop n).map (·.data.toList))).length ≤ 1000000000 → Ev (fun k => spec_l7Join.l0 k l (wk acc) (n : Int)) (wk (acc ++ Lib.joinTail [32] ((l.drop n).map (·.data.toList))))
  | 0, n, acc, h1, hn, hb => by
    rw [List.drop_eq_nil_of_le (show l.length ≤ n by omega)]
    show Ev _ (wk (acc ++ []))
    rw [List.append_nil]
    refine Ev.later fun k => ?_
    simp only [spec_l7Join.l0]
    rw [if_neg (cast_nlt (by omega))]
  | d + 1, n, acc, h1, hn, hb => by
    have w1 : wrap64 ((n : Int) + 1) = ((n + 1 : Nat) : Int) := by rw [w64 (by omega) (by omega)]; rfl
    rw [rd_drop l n (by omega), List.map_cons, jtail_cons] at hb ⊢
    generalize hx : rdOf ByteArray.empty l (n : Int) = x at *
    simp only [List.length_append, List.length_cons, List.length_nil] at hb
    have hd := data_length x
    have ih := join_ev l hl d (n + 1) ((acc ++ [32]) ++ x.data.toList) (by omega) (by omega) (by simp only [List.length_append, List.length_cons, List.length_nil]; omega)
    rw [List.append_assoc, List.append_assoc] at ih
    refine Ev.step (fun k => ?_) ih
    simp only [spec_l7Join.l0]
    have hsz := wk_size acc
    have e : (wk acc ++ (⟨#[32]⟩ : ByteArray)) ++ x = wk (acc ++ ([32] ++ x.data.toList)) := by
      apply bytes_ext
      rw [append_list, append_list, wk_data, wk_data, List.append_assoc]
    rw [if_pos (cast_lt (by omega)), if_pos (by omega), if_pos (by omega), if_pos (by omega), hx, if_pos (by omega), e, w1]
theorem join_all (l : List ByteArray) (hl : l.length ≤ 100000000) (hb : (Lib.joinTail [32] (l.map (·.data.toList))).length ≤ 1000000000) : Ev (fun k => spec_l7Join.f k l) (wk (Lib.join (l.map (·.data.toList)) [32])) := by
  unfold spec_l7Join.f
  cases l with
  | nil =>
    refine Ev.later fun k => ?_
    simp only [spec_l7Join.l0]
    rw [if_neg (by simp)]
    rfl
  | cons x r =>
    rw [List.map_cons, jtail_cons] at hb
    simp only [List.length_append, List.length_cons, List.length_nil] at hb hl
    have hd := data_length x
    have ih := join_ev (x :: r) (by simpa using hl) r.length 1 x.data.toList (by omega) (by simp; omega) (by show _ + (Lib.joinTail [32] (r.map _)).length ≤ _; omega)
    rw [List.map_cons, Lib.join_cons]
    refine Ev.step (fun k => ?_) ih
    simp only [spec_l7Join.l0]
    have w1 : wrap64 ((0 : Int) + 1) = ((1 : Nat) : Int) := by rw [w64 (by omega) (by omega)]; rfl
    have hx : rdOf ByteArray.empty (x :: r) 0 = x := rfl
    have e : (⟨#[]⟩ : ByteArray) ++ x = wk x.data.toList := by
      apply bytes_ext
      rw [append_list]
      rfl
    rw [if_pos (by simp only [List.length_cons]; omega), if_neg (by omega), if_pos (by omega), hx, if_pos (by show 0 + x.size ≤ _; omega), e, w1]
theorem flat_eq (s : ByteArray) : impl_White.flat s = Go.Proofs.YtaliphegdclkfaaW.BytM.mapS spec_White.tb s := by
  unfold impl_White.flat
  congr 1
  funext b
  rw [impl_White.tab]
  unfold spec_White.tb spec_White.isB
  by_cases c1 : b = 32
  · subst c1; rfl
  by_cases c2 : b = 9
  · subst c2; rfl
  by_cases c3 : b = 10
  · subst c3; rfl
  by_cases c4 : b = 13
  · subst c4; rfl
  simp [c1, c2, c3, c4]
end Go.Proofs.Ytaliphegdclkfaa.PW
