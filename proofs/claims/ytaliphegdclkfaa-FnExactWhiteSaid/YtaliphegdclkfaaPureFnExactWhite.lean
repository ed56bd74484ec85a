/- White of the program answers as the reference's does, for every text and every number. No condition. -/
import Derived.Test.YtaliphegdclkfaaPWx1
import Derived.Test.YtaliphegdclkfaaWPWhite
namespace Go.Proofs.Ytaliphegdclkfaa.Pure
open Go.RowKit Go.Proofs.Ytaliphegdclkfaa.PW Go.Proofs.YtaliphegdclkfaaW.PrintWords Go.Proofs.YtaliphegdclkfaaW.PrintLast
set_option linter.unusedVariables false
set_option linter.unusedSimpArgs false
theorem FnExactWhite : laws_FnExactWhite.Pure := by
  intro a0 a1 h0 _
  apply Ev.rounds
  unfold laws_FnExactWhite.f
  by_cases c : (a0.size : Int) > 1048576
  · simp only [c, if_true]
    exact Ev.now _
  · simp only [c, if_false]
    have hs : a0.size ≤ 1048576 := by omega
    unfold spec_White.f impl_White.f
    by_cases c1 : a1 = 1
    · simp only [c1, if_true]
      rw [if_pos (show a0.size ≤ 1073741824 by omega), if_pos (show a0.size ≤ 1073741824 by omega), flat_eq]
      simp only [Option.bind_some, if_true]
      exact Ev.now _
    · simp only [c1, if_false]
      by_cases c2 : a1 = 2
      · simp only [c2, if_true]
        have ht := tail_len a0.data.toList []
        have hl : a0.data.toList.length = a0.size := data_length a0
        have hw : ((wordsL a0.data.toList []).map wk).map (·.data.toList) = wordsL a0.data.toList [] := by
          rw [List.map_map]
          exact List.map_id _
        have h1 := words_all a0 hs
        have h2 := join_all ((wordsL a0.data.toList []).map wk) (by rw [List.length_map]; omega) (by rw [hw]; simp only [List.length_nil] at ht; omega)
        rw [hw] at h2
        have hf : impl_wordsOf.f a0 = some (Lib.goFieldsP blankR a0) := by
          unfold impl_wordsOf.f
          rw [if_pos (by omega)]
          rfl
        have hfw := fields_words a0
        have hjt := join_tail (wordsL a0.data.toList [])
        have hlen : (Lib.goFieldsP blankR a0).length = (wordsL a0.data.toList []).length := by rw [← hfw, List.length_map]
        have hj : strings_Join.f (Lib.goFieldsP blankR a0) (⟨#[32]⟩ : ByteArray) = some (wk (Lib.join (wordsL a0.data.toList []) [32])) := by
          unfold strings_Join.f
          rw [hfw, if_pos ⟨by rw [hlen]; omega, by show (Lib.join _ [32]).length ≤ _; simp only [List.length_nil] at ht; omega⟩]
          rfl
        refine Ev.bind (Ev.bind h1 h2) ?_
        rw [hf]
        simp only [Option.bind_some]
        rw [hj]
        simp only [Option.bind_some, if_true]
        exact Ev.now _
      · simp only [c2, if_false, Option.bind_some, if_true]
        exact Ev.now _
end Go.Proofs.Ytaliphegdclkfaa.Pure
