/- The text of a date, said by the reference and by the program, is the same one. -/
import Derived.Test.YtdfopjmokbcnlaaDoorPXx2
import Derived.Test.YtdfopjmokbcnlaaDoorPXx4
import Derived.Test.YtdfopjmokbcnlaaDoorXPBase
import Derived.Test.YtdfopjmokbcnlaaDoorXPIn
import Derived.Test.YtdfopjmokbcnlaaDoorXPDateOk
import Derived.Test.YtdfopjmokbcnlaaDoorXPPad
import Derived.Test.YtdfopjmokbcnlaaDoorXPDateText
namespace Go.Proofs.YtdfopjmokbcnlaaDoor.PX
open Go.RowKit Go.Proofs.YtdfopjmokbcnlaaDoorW.PrintWords Go.Proofs.YtdfopjmokbcnlaaDoorW.PrintLast Go.Proofs.YtdfopjmokbcnlaaDoorW.PrintMore
set_option linter.unusedVariables false
set_option linter.unusedSimpArgs false
theorem append_assoc' (a b c : ByteArray) : (a ++ b) ++ c = a ++ (b ++ c) := by
  apply ByteArray.ext
  simp [ByteArray.data_append, Array.append_assoc]
theorem mx_pos {z : Int} (h : 0 < z) (h1 : z ≤ 840) : mx z (wrap64 (-z)) = z := by
  rw [w64 (by omega) (by omega)]
  unfold mx
  rw [if_neg (by omega)]
theorem mx_neg {z : Int} (h : z < 0) (h1 : -840 ≤ z) : mx z (wrap64 (-z)) = -z := by
  rw [w64 (by omega) (by omega)]
  unfold mx
  rw [if_pos (by omega)]
set_option maxHeartbeats 4000000 in
theorem date_text (k : Nat) (y mo d h mi s : Int) (z : Bool) (zo : Int) : ∃ r, spec_DateText.f (k + 1) y mo d h mi s z zo = some r ∧ impl_DateText.f y mo d h mi s z zo = some r := by
  unfold spec_DateText.f impl_DateText.f
  rw [spec_DateOk_at, impl_DateOk_eq]
  simp only [Option.bind_some]
  cases hd : dok y mo d h mi s z zo with
  | false =>
    simp only [Bool.false_eq_true, if_false]
    exact ⟨_, rfl, rfl⟩
  | true =>
    obtain ⟨h1, h2, h3, h4, h5, h6, h7, h8⟩ := dok_parts hd
    have hr := dim_range y mo
    simp only [if_true]
    rw [Int.tdiv_eq_ediv_of_nonneg (show 0 ≤ y by omega), w64 (x := y / 100) (by omega) (by omega), Int.tmod_eq_emod_of_nonneg (show 0 ≤ y by omega)]
    rw [l5Two_eq (n := y / 100) (by omega) (by omega), l5Two_eq (n := y % 100) (by omega) (by omega), l5Two_eq (n := mo) (by omega) (by omega), l5Two_eq (n := d) (by omega) (by omega), l5Two_eq (n := h) (by omega) (by omega), l5Two_eq (n := mi) (by omega) (by omega), l5Two_eq (n := s) (by omega) (by omega)]
    rw [padded_four (n := y) (by omega) (by omega), padded_two (n := mo) (by omega) (by omega), padded_two (n := d) (by omega) (by omega), padded_two (n := h) (by omega) (by omega), padded_two (n := mi) (by omega) (by omega), padded_two (n := s) (by omega) (by omega)]
    have sA := twoB_size (y / 100)
    generalize twoB (y / 100) = A at sA ⊢
    have sB := twoB_size (y % 100)
    generalize twoB (y % 100) = B at sB ⊢
    have sC := twoB_size (mo)
    generalize twoB (mo) = C at sC ⊢
    have sD := twoB_size (d)
    generalize twoB (d) = D at sD ⊢
    have sE := twoB_size (h)
    generalize twoB (h) = E at sE ⊢
    have sF := twoB_size (mi)
    generalize twoB (mi) = F at sF ⊢
    have sG := twoB_size (s)
    generalize twoB (s) = G at sG ⊢
    have sAB : (A ++ B).size = 4 := by rw [ByteArray.size_append]; omega
    repeat (first | rw [Option.bind_some] | rw [if_pos (show _ ≤ 9223372036854775807 by omega)])
    cases z with
    | false =>
      simp only [Bool.false_eq_true, if_false]
      exact ⟨_, rfl, rfl⟩
    | true =>
      rw [if_pos rfl, if_pos rfl]
      by_cases e : zo = 0
      · rw [if_pos e, if_pos e]
        repeat rw [if_pos (show _ ≤ 9223372036854775807 by omega)]
        exact ⟨_, rfl, rfl⟩
      · rw [if_neg e, if_neg e]
        by_cases n : zo < 0
        · rw [if_pos n, if_pos n, mx_neg n (by omega), w64 (x := -zo) (by omega) (by omega), Int.tdiv_eq_ediv_of_nonneg (show 0 ≤ -zo by omega), w64 (x := -zo / 60) (by omega) (by omega), Int.tmod_eq_emod_of_nonneg (show 0 ≤ -zo by omega)]
          rw [l5Two_eq (n := -zo / 60) (by omega) (by omega), l5Two_eq (n := -zo % 60) (by omega) (by omega), padded_two (n := -zo / 60) (by omega) (by omega), padded_two (n := -zo % 60) (by omega) (by omega)]
          have sH := twoB_size (-zo / 60)
          have sI := twoB_size (-zo % 60)
          generalize twoB (-zo / 60) = H at sH ⊢
          generalize twoB (-zo % 60) = I at sI ⊢
          repeat (first | rw [Option.bind_some] | rw [if_pos (show _ ≤ 9223372036854775807 by omega)])
          exact ⟨_, rfl, rfl⟩
        · rw [if_neg n, if_neg n, mx_pos (by omega) (by omega), Int.tdiv_eq_ediv_of_nonneg (show 0 ≤ zo by omega), w64 (x := zo / 60) (by omega) (by omega), Int.tmod_eq_emod_of_nonneg (show 0 ≤ zo by omega)]
          rw [l5Two_eq (n := zo / 60) (by omega) (by omega), l5Two_eq (n := zo % 60) (by omega) (by omega), padded_two (n := zo / 60) (by omega) (by omega), padded_two (n := zo % 60) (by omega) (by omega)]
          have sH := twoB_size (zo / 60)
          have sI := twoB_size (zo % 60)
          generalize twoB (zo / 60) = H at sH ⊢
          generalize twoB (zo % 60) = I at sI ⊢
          repeat (first | rw [Option.bind_some] | rw [if_pos (show _ ≤ 9223372036854775807 by omega)])
          exact ⟨_, rfl, rfl⟩
end Go.Proofs.YtdfopjmokbcnlaaDoor.PX
