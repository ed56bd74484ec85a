/- The order of two dates, and of the same two turned round. -/
import Derived.Test.YtdfopjmokbcnlaaPVx2
import Derived.Test.YtdfopjmokbcnlaaPVx7
import Derived.Test.YtdfopjmokbcnlaaVPBase
import Derived.Test.YtdfopjmokbcnlaaVPIn
import Derived.Test.YtdfopjmokbcnlaaVPDates
import Derived.Test.YtdfopjmokbcnlaaVPDatesI
import Derived.Test.YtdfopjmokbcnlaaVPDatesC
namespace Go.Proofs.Ytdfopjmokbcnlaa.PV
open Go.RowKit Go.Proofs.YtdfopjmokbcnlaaW.PrintWords
set_option linter.unusedVariables false
set_option linter.unusedSimpArgs false
theorem sof_ok {y mo d h mi s : Int} {z : Bool} {zo : Int} (c : dok y mo d h mi s z zo = true) : sof y mo d h mi s z zo = secs y mo d h mi s zo := by
  unfold sof
  rw [if_pos c]
theorem order_j0 (y mo d h mi s : Int) (z : Bool) (zo : Int) (y' mo' d' h' mi' s' : Int) (z' : Bool) (zo' : Int) :
    Ev (fun k => laws_FnDateOrder.j0 k (cmpD y mo d h mi s z zo y' mo' d' h' mi' s' z' zo') (cmpD y' mo' d' h' mi' s' z' zo' y mo d h mi s z zo) (decide (cmpD y mo d h mi s z zo y' mo' d' h' mi' s' z' zo' > 1)) y mo d h mi s z zo y' mo' d' h' mi' s' z' zo') true := by
  by_cases c1 : cmpD y mo d h mi s z zo y' mo' d' h' mi' s' z' zo' > 1
  · have hb : cmpD y' mo' d' h' mi' s' z' zo' y mo d h mi s z zo = cmpD y mo d h mi s z zo y' mo' d' h' mi' s' z' zo' := by
      unfold cmpD at c1 ⊢
      by_cases a : dok y mo d h mi s z zo = true <;> by_cases b : dok y' mo' d' h' mi' s' z' zo' = true <;> simp only [a, b, and_self, and_true, true_and, and_false, false_and, if_true, if_false, Bool.false_eq_true] at c1 ⊢
      by_cases e : z = z'
      · subst e
        simp only [beq_self_eq_true, if_true] at c1
        unfold cmpI at c1
        split at c1
        · omega
        · split at c1 <;> omega
      · have e1 : (z == z') = false := by simpa using e
        have e2 : (z' == z) = false := by simpa using fun he => e he.symm
        simp only [e1, e2, Bool.false_eq_true, if_false] at c1 ⊢
        split at c1
        · omega
        · split at c1
          · omega
          · rw [if_neg (by omega), if_neg (by omega), if_neg (by omega), if_neg (by omega)]
    refine Ev.step (f := fun k => (spec_CompareDate.f k y mo d h mi s z zo y' mo' d' h' mi' s' z' zo').bind fun t => if cmpD y mo d h mi s z zo y' mo' d' h' mi' s' z' zo' = t then some (cmpD y' mo' d' h' mi' s' z' zo' y mo d h mi s z zo == cmpD y mo d h mi s z zo y' mo' d' h' mi' s' z' zo') else some false) (fun k => by rw [laws_FnDateOrder.j0, decide_eq_true c1, if_pos rfl]) ?_
    refine Ev.bind (spec_CompareDate_ev _ _ _ _ _ _ _ _ _ _ _ _ _ _ _ _) ?_
    rw [hb]
    simp only [if_true, beq_self_eq_true]
    exact Ev.now _
  · rw [decide_eq_false c1]
    have hab : dok y mo d h mi s z zo = true ∧ dok y' mo' d' h' mi' s' z' zo' = true := by
      apply Classical.byContradiction
      intro hn
      unfold cmpD at c1
      rw [if_neg hn] at c1
      omega
    have hba : dok y' mo' d' h' mi' s' z' zo' = true ∧ dok y mo d h mi s z zo = true := ⟨hab.2, hab.1⟩
    refine Ev.step (f := fun k => _) (fun k => by rw [laws_FnDateOrder.j0, if_neg (by decide)]) ?_
    refine Ev.bind (impl_SecondsOf_ev _ _ _ _ _ _ _ _) (Ev.bind (impl_SecondsOf_ev _ _ _ _ _ _ _ _) ?_)
    rw [sof_ok hab.1, sof_ok hab.2]
    unfold cmpD at c1 ⊢
    rw [if_pos hab] at c1 ⊢
    rw [if_pos hba]
    generalize secs y mo d h mi s zo = p at *
    generalize secs y' mo' d' h' mi' s' zo' = q at *
    have w4 : wrap64 1 = 1 := w64 (by omega) (by omega)
    have w1 : wrap64 (-(-1)) = 1 := by rw [w64 (by omega) (by omega)]; rfl
    have w2 : wrap64 (-1) = -1 := w64 (by omega) (by omega)
    have w3 : wrap64 (-0) = 0 := by rw [w64 (by omega) (by omega)]; rfl
    have low : p < q → ¬ q < p ∧ ¬ p > q ∧ ¬ p = q := fun h => by omega
    have high : q < p → p > q ∧ ¬ p < q ∧ ¬ p = q := fun h => by omega
    by_cases e : z = z'
    · subst e
      simp only [beq_self_eq_true, if_true, bne_self_eq_false, Bool.false_eq_true, if_false]
      unfold cmpI
      by_cases l : p < q
      · obtain ⟨l1, l2, l3⟩ := low l
        rw [if_pos (show p - q < 0 by omega), if_neg (show ¬ q - p < 0 by omega), if_pos (show q - p > 0 by omega)]
        simp only [w1, w4, l, l2, l3, if_true, if_false, decide_true, decide_false, Int.reduceNeg, Int.reduceEq, beq_self_eq_true, Int.reduceBEq]
        exact Ev.now _
      · by_cases g : q < p
        · obtain ⟨g1, g2, g3⟩ := high g
          rw [if_neg (show ¬ p - q < 0 by omega), if_pos (show p - q > 0 by omega), if_pos (show q - p < 0 by omega)]
          simp only [w2, g1, g2, g3, if_true, if_false, decide_true, decide_false, Int.reduceNeg, Int.reduceEq, beq_self_eq_true, Int.reduceBEq]
          exact Ev.now _
        · have e3 : p = q := by omega
          subst e3
          rw [if_neg (show ¬ p - p < 0 by omega), if_neg (show ¬ p - p > 0 by omega)]
          simp only [w3, Int.lt_irrefl, gt_iff_lt, if_true, if_false, decide_false, Int.reduceNeg, Int.reduceEq, beq_self_eq_true, Int.reduceBEq]
          exact Ev.now _
    · have e1 : (z == z') = false := by simpa using e
      have e2 : (z' == z) = false := by simpa using fun he => e he.symm
      have e3 : (z != z') = true := by simpa using e
      simp only [e1, e2, e3, Bool.false_eq_true, if_false, if_true] at c1 ⊢
      by_cases l : p - q < -50400
      · obtain ⟨l1, l2, l3⟩ := low (by omega)
        have l0 : p < q := by omega
        rw [if_pos l, if_neg (show ¬ q - p < -50400 by omega), if_pos (show q - p > 50400 by omega)]
        simp only [w1, w4, l0, l2, l3, if_true, if_false, Int.reduceNeg, Int.reduceEq]
        exact Ev.now _
      · by_cases g : p - q > 50400
        · obtain ⟨g1, g2, g3⟩ := high (by omega)
          rw [if_neg l, if_pos g, if_pos (show q - p < -50400 by omega)]
          simp only [w2, g1, g2, g3, if_true, if_false, Int.reduceNeg, Int.reduceEq]
          exact Ev.now _
        · rw [if_neg l, if_neg g] at c1
          omega
end Go.Proofs.Ytdfopjmokbcnlaa.PV
