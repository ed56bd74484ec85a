-- Printed by this session's pdrive.py over the kit's printer.
import Derived.Test.YtdfopjmokbcnlaaPQx0
import Derived.Test.YtdfopjmokbcnlaaPQx2
import Derived.Test.YtdfopjmokbcnlaaPQx3
import Derived.Test.YtdfopjmokbcnlaaPQx6
namespace Go.Proofs.Ytdfopjmokbcnlaa.PQ
open Go.RowKit Go.Proofs.YtdfopjmokbcnlaaW.PrintWords Go.Proofs.YtdfopjmokbcnlaaW.PrintLast Go.Proofs.YtdfopjmokbcnlaaW.PrintMore Go.Proofs.YtdfopjmokbcnlaaW.WordsB
attribute [local go_sem] max2_int min2_int max_two min_two max_three min_three max_four min_four   -- for this text's walks alone
set_option linter.unusedVariables false
set_option linter.unusedSimpArgs false

/-! ### laws_FnNextDay: function 9 -/
mutual
def laws_FnNextDay.j0 : Nat → Int → Bool → Int → Int → Int → Int → Int → Int → Bool → Int → Option (Bool)
 | 0, _, _, _, _, _, _, _, _, _, _ => none
 | k + 1, x4, x24, x228000, x228001, x228002, x228003, x228004, x228005, x228006, x228007 => if x24 = true then ((spec_SecondsOf.f k x228000 x228001 x228002 x228003 x228004 x228005 x228006 x228007).bind fun t231 => (some (x4 == t231))) else ((impl_DaysIn.f x228000 x228001).bind fun t232 => (if x228001 = 12 then (laws_FnNextDay.j1 k x228000 x228001 x228002 x228003 x228004 x228005 x228006 x228007 x228000 x228001 t232 23 59 59 x228006 x228007 (wrap64 (x228000 + 1)) 1 1 0 0 0 x228006 x228007) else (laws_FnNextDay.j1 k x228000 x228001 x228002 x228003 x228004 x228005 x228006 x228007 x228000 x228001 t232 23 59 59 x228006 x228007 x228000 (wrap64 (x228001 + 1)) 1 0 0 0 x228006 x228007)))
def laws_FnNextDay.j1 : Nat → Int → Int → Int → Int → Int → Int → Bool → Int → Int → Int → Int → Int → Int → Int → Bool → Int → Int → Int → Int → Int → Int → Int → Bool → Int → Option (Bool)
 | 0, _, _, _, _, _, _, _, _, _, _, _, _, _, _, _, _, _, _, _, _, _, _, _, _ => none
 | k + 1, x228000, x228001, x228002, x228003, x228004, x228005, x228006, x228007, x234000, x234001, x234002, x234003, x234004, x234005, x234006, x234007, x235000, x235001, x235002, x235003, x235004, x235005, x235006, x235007 => laws_FnNextDay.l0 k 0 1 x228000 x228001 x228002 x228003 x228004 x228005 x228006 x228007 x234000 x234001 x234002 x234003 x234004 x234005 x234006 x234007 x235000 x235001 x235002 x235003 x235004 x235005 x235006 x235007
def laws_FnNextDay.l0 : Nat → Int → Int → Int → Int → Int → Int → Int → Int → Bool → Int → Int → Int → Int → Int → Int → Int → Bool → Int → Int → Int → Int → Int → Int → Int → Bool → Int → Option (Bool)
 | 0, _, _, _, _, _, _, _, _, _, _, _, _, _, _, _, _, _, _, _, _, _, _, _, _, _, _ => none
 | k + 1, x7, x8, x228000, x228001, x228002, x228003, x228004, x228005, x228006, x228007, x234000, x234001, x234002, x234003, x234004, x234005, x234006, x234007, x235000, x235001, x235002, x235003, x235004, x235005, x235006, x235007 => if x8 ≤ 12 then ((impl_DaysIn.f x228000 x8).bind fun t235 => (laws_FnNextDay.l0 k (wrap64 (x7 + t235)) (wrap64 (x8 + 1)) x228000 x228001 x228002 x228003 x228004 x228005 x228006 x228007 x234000 x234001 x234002 x234003 x234004 x234005 x234006 x234007 x235000 x235001 x235002 x235003 x235004 x235005 x235006 x235007)) else (if (Int.tmod x228000 4) = 0 then (if (Int.tmod x228000 100) = 0 then (laws_FnNextDay.j3 k x7 ((Int.tmod x228000 400) == 0) x234000 x234001 x234002 x234003 x234004 x234005 x234006 x234007 x235000 x235001 x235002 x235003 x235004 x235005 x235006 x235007) else (laws_FnNextDay.j3 k x7 true x234000 x234001 x234002 x234003 x234004 x234005 x234006 x234007 x235000 x235001 x235002 x235003 x235004 x235005 x235006 x235007)) else (laws_FnNextDay.j3 k x7 false x234000 x234001 x234002 x234003 x234004 x234005 x234006 x234007 x235000 x235001 x235002 x235003 x235004 x235005 x235006 x235007))
def laws_FnNextDay.j3 : Nat → Int → Bool → Int → Int → Int → Int → Int → Int → Bool → Int → Int → Int → Int → Int → Int → Int → Bool → Int → Option (Bool)
 | 0, _, _, _, _, _, _, _, _, _, _, _, _, _, _, _, _, _, _ => none
 | k + 1, x7, x9, x234000, x234001, x234002, x234003, x234004, x234005, x234006, x234007, x235000, x235001, x235002, x235003, x235004, x235005, x235006, x235007 => if x7 = 365 then (if x7 = 366 then ((impl_DateOk.f x234000 x234001 x234002 x234003 x234004 x234005 x234006 x234007).bind fun t236 => (laws_FnNextDay.j4 k (!t236) x234000 x234001 x234002 x234003 x234004 x234005 x234006 x234007 x235000 x235001 x235002 x235003 x235004 x235005 x235006 x235007)) else (if x9 = true then (laws_FnNextDay.j4 k true x234000 x234001 x234002 x234003 x234004 x234005 x234006 x234007 x235000 x235001 x235002 x235003 x235004 x235005 x235006 x235007) else ((impl_DateOk.f x234000 x234001 x234002 x234003 x234004 x234005 x234006 x234007).bind fun t237 => (laws_FnNextDay.j4 k (!t237) x234000 x234001 x234002 x234003 x234004 x234005 x234006 x234007 x235000 x235001 x235002 x235003 x235004 x235005 x235006 x235007)))) else (if x9 = true then (if x7 = 366 then ((impl_DateOk.f x234000 x234001 x234002 x234003 x234004 x234005 x234006 x234007).bind fun t238 => (laws_FnNextDay.j4 k (!t238) x234000 x234001 x234002 x234003 x234004 x234005 x234006 x234007 x235000 x235001 x235002 x235003 x235004 x235005 x235006 x235007)) else (laws_FnNextDay.j4 k true x234000 x234001 x234002 x234003 x234004 x234005 x234006 x234007 x235000 x235001 x235002 x235003 x235004 x235005 x235006 x235007)) else (laws_FnNextDay.j4 k true x234000 x234001 x234002 x234003 x234004 x234005 x234006 x234007 x235000 x235001 x235002 x235003 x235004 x235005 x235006 x235007))
def laws_FnNextDay.j4 : Nat → Bool → Int → Int → Int → Int → Int → Int → Bool → Int → Int → Int → Int → Int → Int → Int → Bool → Int → Option (Bool)
 | 0, _, _, _, _, _, _, _, _, _, _, _, _, _, _, _, _, _ => none
 | k + 1, x104, x234000, x234001, x234002, x234003, x234004, x234005, x234006, x234007, x235000, x235001, x235002, x235003, x235004, x235005, x235006, x235007 => if x104 = true then (some false) else (if x235000 > 9999 then (some true) else ((impl_SecondsOf.f k x235000 x235001 x235002 x235003 x235004 x235005 x235006 x235007).bind fun t239 => ((impl_SecondsOf.f k x234000 x234001 x234002 x234003 x234004 x234005 x234006 x234007).bind fun t240 => (some (t239 == (wrap64 (t240 + 1)))))))
end
def laws_FnNextDay.f (k : Nat) (l0 : List Int) : Option (Bool) := (laws_big.f l0).bind fun t218 => (if t218 = true then (some true) else ((spec_DrawSecondsOf.f k l0).bind fun bt219 => ((impl_SecondsOf.f k bt219.1 bt219.2.1 bt219.2.2.1 bt219.2.2.2.1 bt219.2.2.2.2.1 bt219.2.2.2.2.2.1 bt219.2.2.2.2.2.2.1 bt219.2.2.2.2.2.2.2).bind fun t228 => ((spec_SecondsOf.f k bt219.1 bt219.2.1 bt219.2.2.1 bt219.2.2.2.1 bt219.2.2.2.2.1 bt219.2.2.2.2.2.1 bt219.2.2.2.2.2.2.1 bt219.2.2.2.2.2.2.2).bind fun t229 => (if t228 = t229 then ((spec_DateOk.f k bt219.1 bt219.2.1 bt219.2.2.1 bt219.2.2.2.1 bt219.2.2.2.2.1 bt219.2.2.2.2.2.1 bt219.2.2.2.2.2.2.1 bt219.2.2.2.2.2.2.2).bind fun t230 => (laws_FnNextDay.j0 k t228 (!t230) bt219.1 bt219.2.1 bt219.2.2.1 bt219.2.2.2.1 bt219.2.2.2.2.1 bt219.2.2.2.2.2.1 bt219.2.2.2.2.2.2.1 bt219.2.2.2.2.2.2.2)) else (laws_FnNextDay.j0 k t228 true bt219.1 bt219.2.1 bt219.2.2.1 bt219.2.2.2.1 bt219.2.2.2.2.1 bt219.2.2.2.2.2.1 bt219.2.2.2.2.2.2.1 bt219.2.2.2.2.2.2.2))))))
theorem laws_FnNextDay.mono_l : ∀ k, (∀ y0 y1 y2 y3 y4 y5 y6 y7 y8 y9, LeO (laws_FnNextDay.j0 k y0 y1 y2 y3 y4 y5 y6 y7 y8 y9) (laws_FnNextDay.j0 (k + 1) y0 y1 y2 y3 y4 y5 y6 y7 y8 y9)) ∧ (∀ y0 y1 y2 y3 y4 y5 y6 y7 y8 y9 y10 y11 y12 y13 y14 y15 y16 y17 y18 y19 y20 y21 y22 y23, LeO (laws_FnNextDay.j1 k y0 y1 y2 y3 y4 y5 y6 y7 y8 y9 y10 y11 y12 y13 y14 y15 y16 y17 y18 y19 y20 y21 y22 y23) (laws_FnNextDay.j1 (k + 1) y0 y1 y2 y3 y4 y5 y6 y7 y8 y9 y10 y11 y12 y13 y14 y15 y16 y17 y18 y19 y20 y21 y22 y23)) ∧ (∀ y0 y1 y2 y3 y4 y5 y6 y7 y8 y9 y10 y11 y12 y13 y14 y15 y16 y17 y18 y19 y20 y21 y22 y23 y24 y25, LeO (laws_FnNextDay.l0 k y0 y1 y2 y3 y4 y5 y6 y7 y8 y9 y10 y11 y12 y13 y14 y15 y16 y17 y18 y19 y20 y21 y22 y23 y24 y25) (laws_FnNextDay.l0 (k + 1) y0 y1 y2 y3 y4 y5 y6 y7 y8 y9 y10 y11 y12 y13 y14 y15 y16 y17 y18 y19 y20 y21 y22 y23 y24 y25)) ∧ (∀ y0 y1 y2 y3 y4 y5 y6 y7 y8 y9 y10 y11 y12 y13 y14 y15 y16 y17, LeO (laws_FnNextDay.j3 k y0 y1 y2 y3 y4 y5 y6 y7 y8 y9 y10 y11 y12 y13 y14 y15 y16 y17) (laws_FnNextDay.j3 (k + 1) y0 y1 y2 y3 y4 y5 y6 y7 y8 y9 y10 y11 y12 y13 y14 y15 y16 y17)) ∧ (∀ y0 y1 y2 y3 y4 y5 y6 y7 y8 y9 y10 y11 y12 y13 y14 y15 y16, LeO (laws_FnNextDay.j4 k y0 y1 y2 y3 y4 y5 y6 y7 y8 y9 y10 y11 y12 y13 y14 y15 y16) (laws_FnNextDay.j4 (k + 1) y0 y1 y2 y3 y4 y5 y6 y7 y8 y9 y10 y11 y12 y13 y14 y15 y16))
 | 0 => ⟨fun _ _ _ _ _ _ _ _ _ _ r h => by simp [laws_FnNextDay.j0] at h, fun _ _ _ _ _ _ _ _ _ _ _ _ _ _ _ _ _ _ _ _ _ _ _ _ r h => by simp [laws_FnNextDay.j1] at h, fun _ _ _ _ _ _ _ _ _ _ _ _ _ _ _ _ _ _ _ _ _ _ _ _ _ _ r h => by simp [laws_FnNextDay.l0] at h, fun _ _ _ _ _ _ _ _ _ _ _ _ _ _ _ _ _ _ r h => by simp [laws_FnNextDay.j3] at h, fun _ _ _ _ _ _ _ _ _ _ _ _ _ _ _ _ _ r h => by simp [laws_FnNextDay.j4] at h⟩
 | k + 1 => by
  obtain ⟨ih0, ih1, ih2, ih3, ih4⟩ := laws_FnNextDay.mono_l k
  refine ⟨?_, ?_, ?_, ?_, ?_⟩
  ·intro y0 y1 y2 y3 y4 y5 y6 y7 y8 y9
   unfold laws_FnNextDay.j0
   repeat' first
   | (with_reducible exact ih0 _ _ _ _ _ _ _ _ _ _)
   | (with_reducible exact ih1 _ _ _ _ _ _ _ _ _ _ _ _ _ _ _ _ _ _ _ _ _ _ _ _)
   | (with_reducible exact ih2 _ _ _ _ _ _ _ _ _ _ _ _ _ _ _ _ _ _ _ _ _ _ _ _ _ _)
   | (with_reducible exact ih3 _ _ _ _ _ _ _ _ _ _ _ _ _ _ _ _ _ _)
   | (with_reducible exact ih4 _ _ _ _ _ _ _ _ _ _ _ _ _ _ _ _ _)
   | (with_reducible exact impl_SecondsOf.mono _ _ _ _ _ _ _ _ _)
   | (with_reducible exact spec_DateOk.mono _ _ _ _ _ _ _ _ _)
   | (with_reducible exact spec_DrawSecondsOf.mono _ _)
   | (with_reducible exact spec_SecondsOf.mono _ _ _ _ _ _ _ _ _)
   | (with_reducible exact LeO.refl _)
   | (with_reducible exact LeO.none _)
   | (with_reducible refine LeO.ite ?_ ?_)
   | (with_reducible refine LeO.bind ?_ (fun _ => ?_))
   | exact ih0 _ _ _ _ _ _ _ _ _ _
   | exact ih1 _ _ _ _ _ _ _ _ _ _ _ _ _ _ _ _ _ _ _ _ _ _ _ _
   | exact ih2 _ _ _ _ _ _ _ _ _ _ _ _ _ _ _ _ _ _ _ _ _ _ _ _ _ _
   | exact ih3 _ _ _ _ _ _ _ _ _ _ _ _ _ _ _ _ _ _
   | exact ih4 _ _ _ _ _ _ _ _ _ _ _ _ _ _ _ _ _
   | exact impl_SecondsOf.mono _ _ _ _ _ _ _ _ _
   | exact spec_DateOk.mono _ _ _ _ _ _ _ _ _
   | exact spec_DrawSecondsOf.mono _ _
   | exact spec_SecondsOf.mono _ _ _ _ _ _ _ _ _
   | exact LeO.none _
   | refine LeO.ite ?_ ?_
   | refine LeO.bind ?_ (fun _ => ?_)
  ·intro y0 y1 y2 y3 y4 y5 y6 y7 y8 y9 y10 y11 y12 y13 y14 y15 y16 y17 y18 y19 y20 y21 y22 y23
   unfold laws_FnNextDay.j1
   repeat' first
   | (with_reducible exact ih0 _ _ _ _ _ _ _ _ _ _)
   | (with_reducible exact ih1 _ _ _ _ _ _ _ _ _ _ _ _ _ _ _ _ _ _ _ _ _ _ _ _)
   | (with_reducible exact ih2 _ _ _ _ _ _ _ _ _ _ _ _ _ _ _ _ _ _ _ _ _ _ _ _ _ _)
   | (with_reducible exact ih3 _ _ _ _ _ _ _ _ _ _ _ _ _ _ _ _ _ _)
   | (with_reducible exact ih4 _ _ _ _ _ _ _ _ _ _ _ _ _ _ _ _ _)
   | (with_reducible exact impl_SecondsOf.mono _ _ _ _ _ _ _ _ _)
   | (with_reducible exact spec_DateOk.mono _ _ _ _ _ _ _ _ _)
   | (with_reducible exact spec_DrawSecondsOf.mono _ _)
   | (with_reducible exact spec_SecondsOf.mono _ _ _ _ _ _ _ _ _)
   | (with_reducible exact LeO.refl _)
   | (with_reducible exact LeO.none _)
   | (with_reducible refine LeO.ite ?_ ?_)
   | (with_reducible refine LeO.bind ?_ (fun _ => ?_))
   | exact ih0 _ _ _ _ _ _ _ _ _ _
   | exact ih1 _ _ _ _ _ _ _ _ _ _ _ _ _ _ _ _ _ _ _ _ _ _ _ _
   | exact ih2 _ _ _ _ _ _ _ _ _ _ _ _ _ _ _ _ _ _ _ _ _ _ _ _ _ _
   | exact ih3 _ _ _ _ _ _ _ _ _ _ _ _ _ _ _ _ _ _
   | exact ih4 _ _ _ _ _ _ _ _ _ _ _ _ _ _ _ _ _
   | exact impl_SecondsOf.mono _ _ _ _ _ _ _ _ _
   | exact spec_DateOk.mono _ _ _ _ _ _ _ _ _
   | exact spec_DrawSecondsOf.mono _ _
   | exact spec_SecondsOf.mono _ _ _ _ _ _ _ _ _
   | exact LeO.none _
   | refine LeO.ite ?_ ?_
   | refine LeO.bind ?_ (fun _ => ?_)
  ·intro y0 y1 y2 y3 y4 y5 y6 y7 y8 y9 y10 y11 y12 y13 y14 y15 y16 y17 y18 y19 y20 y21 y22 y23 y24 y25
   unfold laws_FnNextDay.l0
   repeat' first
   | (with_reducible exact ih0 _ _ _ _ _ _ _ _ _ _)
   | (with_reducible exact ih1 _ _ _ _ _ _ _ _ _ _ _ _ _ _ _ _ _ _ _ _ _ _ _ _)
   | (with_reducible exact ih2 _ _ _ _ _ _ _ _ _ _ _ _ _ _ _ _ _ _ _ _ _ _ _ _ _ _)
   | (with_reducible exact ih3 _ _ _ _ _ _ _ _ _ _ _ _ _ _ _ _ _ _)
   | (with_reducible exact ih4 _ _ _ _ _ _ _ _ _ _ _ _ _ _ _ _ _)
   | (with_reducible exact impl_SecondsOf.mono _ _ _ _ _ _ _ _ _)
   | (with_reducible exact spec_DateOk.mono _ _ _ _ _ _ _ _ _)
   | (with_reducible exact spec_DrawSecondsOf.mono _ _)
   | (with_reducible exact spec_SecondsOf.mono _ _ _ _ _ _ _ _ _)
   | (with_reducible exact LeO.refl _)
   | (with_reducible exact LeO.none _)
   | (with_reducible refine LeO.ite ?_ ?_)
   | (with_reducible refine LeO.bind ?_ (fun _ => ?_))
   | exact ih0 _ _ _ _ _ _ _ _ _ _
   | exact ih1 _ _ _ _ _ _ _ _ _ _ _ _ _ _ _ _ _ _ _ _ _ _ _ _
   | exact ih2 _ _ _ _ _ _ _ _ _ _ _ _ _ _ _ _ _ _ _ _ _ _ _ _ _ _
   | exact ih3 _ _ _ _ _ _ _ _ _ _ _ _ _ _ _ _ _ _
   | exact ih4 _ _ _ _ _ _ _ _ _ _ _ _ _ _ _ _ _
   | exact impl_SecondsOf.mono _ _ _ _ _ _ _ _ _
   | exact spec_DateOk.mono _ _ _ _ _ _ _ _ _
   | exact spec_DrawSecondsOf.mono _ _
   | exact spec_SecondsOf.mono _ _ _ _ _ _ _ _ _
   | exact LeO.none _
   | refine LeO.ite ?_ ?_
   | refine LeO.bind ?_ (fun _ => ?_)
  ·intro y0 y1 y2 y3 y4 y5 y6 y7 y8 y9 y10 y11 y12 y13 y14 y15 y16 y17
   unfold laws_FnNextDay.j3
   repeat' first
   | (with_reducible exact ih0 _ _ _ _ _ _ _ _ _ _)
   | (with_reducible exact ih1 _ _ _ _ _ _ _ _ _ _ _ _ _ _ _ _ _ _ _ _ _ _ _ _)
   | (with_reducible exact ih2 _ _ _ _ _ _ _ _ _ _ _ _ _ _ _ _ _ _ _ _ _ _ _ _ _ _)
   | (with_reducible exact ih3 _ _ _ _ _ _ _ _ _ _ _ _ _ _ _ _ _ _)
   | (with_reducible exact ih4 _ _ _ _ _ _ _ _ _ _ _ _ _ _ _ _ _)
   | (with_reducible exact impl_SecondsOf.mono _ _ _ _ _ _ _ _ _)
   | (with_reducible exact spec_DateOk.mono _ _ _ _ _ _ _ _ _)
   | (with_reducible exact spec_DrawSecondsOf.mono _ _)
   | (with_reducible exact spec_SecondsOf.mono _ _ _ _ _ _ _ _ _)
   | (with_reducible exact LeO.refl _)
   | (with_reducible exact LeO.none _)
   | (with_reducible refine LeO.ite ?_ ?_)
   | (with_reducible refine LeO.bind ?_ (fun _ => ?_))
   | exact ih0 _ _ _ _ _ _ _ _ _ _
   | exact ih1 _ _ _ _ _ _ _ _ _ _ _ _ _ _ _ _ _ _ _ _ _ _ _ _
   | exact ih2 _ _ _ _ _ _ _ _ _ _ _ _ _ _ _ _ _ _ _ _ _ _ _ _ _ _
   | exact ih3 _ _ _ _ _ _ _ _ _ _ _ _ _ _ _ _ _ _
   | exact ih4 _ _ _ _ _ _ _ _ _ _ _ _ _ _ _ _ _
   | exact impl_SecondsOf.mono _ _ _ _ _ _ _ _ _
   | exact spec_DateOk.mono _ _ _ _ _ _ _ _ _
   | exact spec_DrawSecondsOf.mono _ _
   | exact spec_SecondsOf.mono _ _ _ _ _ _ _ _ _
   | exact LeO.none _
   | refine LeO.ite ?_ ?_
   | refine LeO.bind ?_ (fun _ => ?_)
  ·intro y0 y1 y2 y3 y4 y5 y6 y7 y8 y9 y10 y11 y12 y13 y14 y15 y16
   unfold laws_FnNextDay.j4
   repeat' first
   | (with_reducible exact ih0 _ _ _ _ _ _ _ _ _ _)
   | (with_reducible exact ih1 _ _ _ _ _ _ _ _ _ _ _ _ _ _ _ _ _ _ _ _ _ _ _ _)
   | (with_reducible exact ih2 _ _ _ _ _ _ _ _ _ _ _ _ _ _ _ _ _ _ _ _ _ _ _ _ _ _)
   | (with_reducible exact ih3 _ _ _ _ _ _ _ _ _ _ _ _ _ _ _ _ _ _)
   | (with_reducible exact ih4 _ _ _ _ _ _ _ _ _ _ _ _ _ _ _ _ _)
   | (with_reducible exact impl_SecondsOf.mono _ _ _ _ _ _ _ _ _)
   | (with_reducible exact spec_DateOk.mono _ _ _ _ _ _ _ _ _)
   | (with_reducible exact spec_DrawSecondsOf.mono _ _)
   | (with_reducible exact spec_SecondsOf.mono _ _ _ _ _ _ _ _ _)
   | (with_reducible exact LeO.refl _)
   | (with_reducible exact LeO.none _)
   | (with_reducible refine LeO.ite ?_ ?_)
   | (with_reducible refine LeO.bind ?_ (fun _ => ?_))
   | exact ih0 _ _ _ _ _ _ _ _ _ _
   | exact ih1 _ _ _ _ _ _ _ _ _ _ _ _ _ _ _ _ _ _ _ _ _ _ _ _
   | exact ih2 _ _ _ _ _ _ _ _ _ _ _ _ _ _ _ _ _ _ _ _ _ _ _ _ _ _
   | exact ih3 _ _ _ _ _ _ _ _ _ _ _ _ _ _ _ _ _ _
   | exact ih4 _ _ _ _ _ _ _ _ _ _ _ _ _ _ _ _ _
   | exact impl_SecondsOf.mono _ _ _ _ _ _ _ _ _
   | exact spec_DateOk.mono _ _ _ _ _ _ _ _ _
   | exact spec_DrawSecondsOf.mono _ _
   | exact spec_SecondsOf.mono _ _ _ _ _ _ _ _ _
   | exact LeO.none _
   | refine LeO.ite ?_ ?_
   | refine LeO.bind ?_ (fun _ => ?_)
theorem laws_FnNextDay.mono : ∀ a0 k, LeO (laws_FnNextDay.f k a0) (laws_FnNextDay.f (k + 1) a0) := by
 intro a0 k
 obtain ⟨ih0, ih1, ih2, ih3, ih4⟩ := laws_FnNextDay.mono_l k
 unfold laws_FnNextDay.f
 repeat' first
   | (with_reducible exact ih0 _ _ _ _ _ _ _ _ _ _)
   | (with_reducible exact ih1 _ _ _ _ _ _ _ _ _ _ _ _ _ _ _ _ _ _ _ _ _ _ _ _)
   | (with_reducible exact ih2 _ _ _ _ _ _ _ _ _ _ _ _ _ _ _ _ _ _ _ _ _ _ _ _ _ _)
   | (with_reducible exact ih3 _ _ _ _ _ _ _ _ _ _ _ _ _ _ _ _ _ _)
   | (with_reducible exact ih4 _ _ _ _ _ _ _ _ _ _ _ _ _ _ _ _ _)
   | (with_reducible exact impl_SecondsOf.mono _ _ _ _ _ _ _ _ _)
   | (with_reducible exact spec_DateOk.mono _ _ _ _ _ _ _ _ _)
   | (with_reducible exact spec_DrawSecondsOf.mono _ _)
   | (with_reducible exact spec_SecondsOf.mono _ _ _ _ _ _ _ _ _)
   | (with_reducible exact LeO.refl _)
   | (with_reducible exact LeO.none _)
   | (with_reducible refine LeO.ite ?_ ?_)
   | (with_reducible refine LeO.bind ?_ (fun _ => ?_))
   | exact ih0 _ _ _ _ _ _ _ _ _ _
   | exact ih1 _ _ _ _ _ _ _ _ _ _ _ _ _ _ _ _ _ _ _ _ _ _ _ _
   | exact ih2 _ _ _ _ _ _ _ _ _ _ _ _ _ _ _ _ _ _ _ _ _ _ _ _ _ _
   | exact ih3 _ _ _ _ _ _ _ _ _ _ _ _ _ _ _ _ _ _
   | exact ih4 _ _ _ _ _ _ _ _ _ _ _ _ _ _ _ _ _
   | exact impl_SecondsOf.mono _ _ _ _ _ _ _ _ _
   | exact spec_DateOk.mono _ _ _ _ _ _ _ _ _
   | exact spec_DrawSecondsOf.mono _ _
   | exact spec_SecondsOf.mono _ _ _ _ _ _ _ _ _
   | exact LeO.none _
   | refine LeO.ite ?_ ?_
   | refine LeO.bind ?_ (fun _ => ?_)
def laws_FnNextDay.T7 : Bool × List (List Nat × List Nat) := (true, [([], []), ([0], [0]), ([], []), ([2], [2]), ([], []), ([4], [4]), ([], []), ([6], [6]), ([5, 7], [5, 7]), ([], []), ([9], [9]), ([], []), ([11], [11]), ([1, 3, 8, 10, 12], [1, 3, 8, 10, 12]), ([], []), ([14, 13, 8, 0, 1, 2, 3, 4, 5, 6, 7, 8, 9, 10, 11, 12, 13, 14], [13, 14])])
def laws_FnNextDay.B7 : List Nat := [0, 1, 0, 4, 0, 16, 0, 64, 240, 0, 512, 0, 2048, 8191, 0, 32767]
theorem laws_FnNextDay.tab7 : rtab .any (opsOf Try.f9 7) = laws_FnNextDay.T7 := by kernel_rfl
theorem laws_FnNextDay.bits7 : waitsOk laws_FnNextDay.T7.2 laws_FnNextDay.B7 = true := by kernel_rfl
def laws_FnNextDay.T20 : Bool × List (List Nat × List Nat) := (true, [([], []), ([0], [0]), ([1], [1]), ([2], [2]), ([3], [3]), ([4, 3, 3], [3, 4]), ([3], [3]), ([6, 5, 3], [3, 6]), ([7, 3], [3, 7]), ([5, 8, 3], [3, 5, 8]), ([3, 9], [3, 9]), ([10, 7, 0, 1, 2, 3, 4, 5, 6, 7, 8, 9, 10], [10])])
def laws_FnNextDay.B20 : List Nat := [0, 1, 3, 7, 15, 31, 15, 127, 255, 511, 1023, 2047]
theorem laws_FnNextDay.tab20 : rtab .any (opsOf Try.f9 20) = laws_FnNextDay.T20 := by kernel_rfl
theorem laws_FnNextDay.bits20 : waitsOk laws_FnNextDay.T20.2 laws_FnNextDay.B20 = true := by kernel_rfl
set_option maxHeartbeats 8000000 in
set_option maxRecDepth 100000 in
theorem laws_FnNextDay.calls (k : Nat) (A0 : Option Addr) (c0 : Nat) (l0 : List Int) (r : Bool) (w : World) (hr0 : Kd.C (Kd.int .u8) w A0 l0.length l0) (hc0 : l0.length ≤ c0) (h : laws_FnNextDay.f k l0 = some r) :
  Calls Try.prog 9 #[.slice A0 l0.length c0] w fun e w' => e = .returned (.bool r) ∧ Below w.heap.size w w' := by
 have hu29 := Try.underlying29
 have HR0 := Aside0.mk hr0
 have HC0 := Aside0.mk hc0
 clear hr0 hc0
 have HB := Aside0.mk (Below.refl w.heap.size w)
 have H : ((laws_big.f l0).bind fun t218 => (if t218 = true then (some true) else ((spec_DrawSecondsOf.f k l0).bind fun bt219 => ((impl_SecondsOf.f k bt219.1 bt219.2.1 bt219.2.2.1 bt219.2.2.2.1 bt219.2.2.2.2.1 bt219.2.2.2.2.2.1 bt219.2.2.2.2.2.2.1 bt219.2.2.2.2.2.2.2).bind fun t228 => ((spec_SecondsOf.f k bt219.1 bt219.2.1 bt219.2.2.1 bt219.2.2.2.1 bt219.2.2.2.2.1 bt219.2.2.2.2.2.1 bt219.2.2.2.2.2.2.1 bt219.2.2.2.2.2.2.2).bind fun t229 => (if t228 = t229 then ((spec_DateOk.f k bt219.1 bt219.2.1 bt219.2.2.1 bt219.2.2.2.1 bt219.2.2.2.2.1 bt219.2.2.2.2.2.1 bt219.2.2.2.2.2.2.1 bt219.2.2.2.2.2.2.2).bind fun t230 => (laws_FnNextDay.j0 k t228 (!t230) bt219.1 bt219.2.1 bt219.2.2.1 bt219.2.2.2.1 bt219.2.2.2.2.1 bt219.2.2.2.2.2.1 bt219.2.2.2.2.2.2.1 bt219.2.2.2.2.2.2.2)) else (laws_FnNextDay.j0 k t228 true bt219.1 bt219.2.1 bt219.2.2.1 bt219.2.2.2.1 bt219.2.2.2.2.1 bt219.2.2.2.2.2.1 bt219.2.2.2.2.2.2.1 bt219.2.2.2.2.2.2.2))))))) = some r := h
 clear h
 replace H := Option.bind_eq_some_iff.mp H
 obtain ⟨t218, A20, H⟩ := H
 replace H : (if t218 = true then (some true) else ((spec_DrawSecondsOf.f k l0).bind fun bt219 => ((impl_SecondsOf.f k bt219.1 bt219.2.1 bt219.2.2.1 bt219.2.2.2.1 bt219.2.2.2.2.1 bt219.2.2.2.2.2.1 bt219.2.2.2.2.2.2.1 bt219.2.2.2.2.2.2.2).bind fun t228 => ((spec_SecondsOf.f k bt219.1 bt219.2.1 bt219.2.2.1 bt219.2.2.2.1 bt219.2.2.2.2.1 bt219.2.2.2.2.2.1 bt219.2.2.2.2.2.2.1 bt219.2.2.2.2.2.2.2).bind fun t229 => (if t228 = t229 then ((spec_DateOk.f k bt219.1 bt219.2.1 bt219.2.2.1 bt219.2.2.2.1 bt219.2.2.2.2.1 bt219.2.2.2.2.2.1 bt219.2.2.2.2.2.2.1 bt219.2.2.2.2.2.2.2).bind fun t230 => (laws_FnNextDay.j0 k t228 (!t230) bt219.1 bt219.2.1 bt219.2.2.1 bt219.2.2.2.1 bt219.2.2.2.2.1 bt219.2.2.2.2.2.1 bt219.2.2.2.2.2.2.1 bt219.2.2.2.2.2.2.2)) else (laws_FnNextDay.j0 k t228 true bt219.1 bt219.2.1 bt219.2.2.1 bt219.2.2.2.1 bt219.2.2.2.2.1 bt219.2.2.2.2.2.1 bt219.2.2.2.2.2.2.1 bt219.2.2.2.2.2.2.2)))))) = some r := H
 have A2 := Aside0.mk A20
 clear A20
 by_cases c3 : t218 = true
 ·subst c3
  have H1 : (some true) = some r := by rw [if_pos rfl] at H; exact H
  clear H
  have H := H1
  clear H1
  obtain rfl := Option.some.inj H
  go_enter Try.func9, Try.ntmps9
  go_wp2_with (first | ((with_reducible refine gate_callee (f := 24) rfl ?_); refine goesL_ (some 11) rfl rfl Try.func24 (by kernel_rfl) rfl #[.slice A0 l0.length c0] rfl (by (try simp only [List.map_toArray, List.map_cons, List.map_nil]); first | done | rfl | (simp only [List.length_drop, List.length_take]; rfl)) ?_; (with_reducible refine (laws_big.calls _ _ l0 true _ ?side1 ?side2 A2.out).mono ?_); (case side1 => repeat (first | exact HR0.out | (with_reducible refine Kd.C_alloc ?_ _) | (with_reducible refine Kd.C_drewN ?_ _) | (with_reducible refine Kd.C_drew ?_))); (case side2 => exact HC0.out); rintro e w' ⟨rfl, ⟨nd, rfl⟩⟩; refine ⟨_, rfl, ?_⟩))
  go_ret
  exact ⟨by first | rfl | (simp [*] <;> rfl), by repeat (first | (with_reducible first | exact HB.out | apply below_alloc | apply pw_below_drewN | apply below_drew1) | exact HB.out)⟩
 ·replace c3 := Bool.eq_false_iff.mpr c3
  subst c3
  have H1 : ((spec_DrawSecondsOf.f k l0).bind fun bt219 => ((impl_SecondsOf.f k bt219.1 bt219.2.1 bt219.2.2.1 bt219.2.2.2.1 bt219.2.2.2.2.1 bt219.2.2.2.2.2.1 bt219.2.2.2.2.2.2.1 bt219.2.2.2.2.2.2.2).bind fun t228 => ((spec_SecondsOf.f k bt219.1 bt219.2.1 bt219.2.2.1 bt219.2.2.2.1 bt219.2.2.2.2.1 bt219.2.2.2.2.2.1 bt219.2.2.2.2.2.2.1 bt219.2.2.2.2.2.2.2).bind fun t229 => (if t228 = t229 then ((spec_DateOk.f k bt219.1 bt219.2.1 bt219.2.2.1 bt219.2.2.2.1 bt219.2.2.2.2.1 bt219.2.2.2.2.2.1 bt219.2.2.2.2.2.2.1 bt219.2.2.2.2.2.2.2).bind fun t230 => (laws_FnNextDay.j0 k t228 (!t230) bt219.1 bt219.2.1 bt219.2.2.1 bt219.2.2.2.1 bt219.2.2.2.2.1 bt219.2.2.2.2.2.1 bt219.2.2.2.2.2.2.1 bt219.2.2.2.2.2.2.2)) else (laws_FnNextDay.j0 k t228 true bt219.1 bt219.2.1 bt219.2.2.1 bt219.2.2.2.1 bt219.2.2.2.2.1 bt219.2.2.2.2.2.1 bt219.2.2.2.2.2.2.1 bt219.2.2.2.2.2.2.2))))) = some r := by rw [if_neg (show ¬ (false = true) by decide)] at H; exact H
  clear H
  have H := H1
  clear H1
  replace H := Option.bind_eq_some_iff.mp H
  obtain ⟨⟨t219, t220, t221, t222, t223, t224, t225, t226⟩, A40, H⟩ := H
  replace H : ((impl_SecondsOf.f k t219 t220 t221 t222 t223 t224 t225 t226).bind fun t228 => ((spec_SecondsOf.f k t219 t220 t221 t222 t223 t224 t225 t226).bind fun t229 => (if t228 = t229 then ((spec_DateOk.f k t219 t220 t221 t222 t223 t224 t225 t226).bind fun t230 => (laws_FnNextDay.j0 k t228 (!t230) t219 t220 t221 t222 t223 t224 t225 t226)) else (laws_FnNextDay.j0 k t228 true t219 t220 t221 t222 t223 t224 t225 t226)))) = some r := H
  have A4 := Aside0.mk A40
  clear A40
  replace H := Option.bind_eq_some_iff.mp H
  obtain ⟨t228, A50, H⟩ := H
  replace H : ((spec_SecondsOf.f k t219 t220 t221 t222 t223 t224 t225 t226).bind fun t229 => (if t228 = t229 then ((spec_DateOk.f k t219 t220 t221 t222 t223 t224 t225 t226).bind fun t230 => (laws_FnNextDay.j0 k t228 (!t230) t219 t220 t221 t222 t223 t224 t225 t226)) else (laws_FnNextDay.j0 k t228 true t219 t220 t221 t222 t223 t224 t225 t226))) = some r := H
  have A5 := Aside0.mk A50
  clear A50
  have HC6 := Aside0.mk H
  clear H
  go_enter Try.func9, Try.ntmps9
  go_upto_region 5 with (first | ((with_reducible refine gate_callee (f := 24) rfl ?_); refine goesL_ (some 11) rfl rfl Try.func24 (by kernel_rfl) rfl #[.slice A0 l0.length c0] rfl (by (try simp only [List.map_toArray, List.map_cons, List.map_nil]); first | done | rfl | (simp only [List.length_drop, List.length_take]; rfl)) ?_; (with_reducible refine (laws_big.calls _ _ l0 false _ ?side1 ?side2 A2.out).mono ?_); (case side1 => repeat (first | exact HR0.out | (with_reducible refine Kd.C_alloc ?_ _) | (with_reducible refine Kd.C_drewN ?_ _) | (with_reducible refine Kd.C_drew ?_))); (case side2 => exact HC0.out); rintro e w' ⟨rfl, ⟨nd, rfl⟩⟩; refine ⟨_, rfl, ?_⟩) | ((with_reducible refine gate_callee (f := 25) rfl ?_); refine goesL_ (some 13) rfl rfl Try.func25 (by kernel_rfl) rfl #[.slice A0 l0.length c0] rfl (by (try simp only [List.map_toArray, List.map_cons, List.map_nil]); first | done | rfl | (simp only [List.length_drop, List.length_take]; rfl)) ?_; (with_reducible refine (spec_DrawSecondsOf.calls k _ _ l0 t219 t220 t221 t222 t223 t224 t225 t226 _ ?side1 ?side2 A4.out).mono ?_); (case side1 => repeat (first | exact HR0.out | (with_reducible refine Kd.C_alloc ?_ _) | (with_reducible refine Kd.C_drewN ?_ _) | (with_reducible refine Kd.C_drew ?_))); (case side2 => exact HC0.out); rintro e w7 ⟨rfl, hb⟩; refine ⟨_, rfl, ?_⟩; have n0_ := Aside0.mk (below_step (by repeat (first | (with_reducible first | exact HB.out | apply below_alloc | apply pw_below_drewN | apply below_drew1) | exact HB.out)) hb); clear HB; have HB := n0_; clear n0_; (try clear hb); (try clear hb2); (try clear hk); (try clear hi)) | ((with_reducible refine gate_dst (N := 3) rfl ?_); refine box_event ?hg (N := 3) ?hd (cs := #[.int .i64 0, .int .i64 0, .int .i64 0, .int .i64 0, .int .i64 0, .int .i64 0, .bool false, .int .i64 0]) (t := 29) ?hr ?_; (case hd => rfl); (case hg => rfl); (case hr => first | (go_simp; done) | (go_simp; rfl)); intro gb227 hg w8 hbox hb; have n0_ := Aside0.mk (below_step (by repeat (first | (with_reducible first | exact HB.out | apply below_alloc | apply pw_below_drewN | apply below_drew1) | exact HB.out)) hb); have n1_ := Aside0.mk (hbox); have n2_ := Aside0.mk ((by rw [hg]; exact (below_size (by repeat (first | (with_reducible first | exact HB.out | apply below_alloc | apply pw_below_drewN | apply below_drew1) | exact HB.out))) : w.heap.size ≤ gb227)); have n3_ := Aside0.mk ((by rw [hg]; exact (below_size (by repeat (first | (with_reducible first | exact HB.out | apply below_alloc | apply pw_below_drewN | apply below_drew1) | exact HB.out))) : w.heap.size ≤ gb227)); clear HB; have HB := n0_; have BK227 := n1_; have GW227 := n2_; have GE227 := n3_; clear n0_ n1_ n2_ n3_; clear hb hbox hg; have hcz9_0 : w8.cell? ⟨gb227, 0, none⟩ = some (.int .i64 0) := (blk_cell BK227.out 0).trans rfl; have hcz9_1 : w8.cell? ⟨gb227, 1, none⟩ = some (.int .i64 0) := (blk_cell BK227.out 1).trans rfl; have hcz9_2 : w8.cell? ⟨gb227, 2, none⟩ = some (.int .i64 0) := (blk_cell BK227.out 2).trans rfl; have hcz9_3 : w8.cell? ⟨gb227, 3, none⟩ = some (.int .i64 0) := (blk_cell BK227.out 3).trans rfl; have hcz9_4 : w8.cell? ⟨gb227, 4, none⟩ = some (.int .i64 0) := (blk_cell BK227.out 4).trans rfl; have hcz9_5 : w8.cell? ⟨gb227, 5, none⟩ = some (.int .i64 0) := (blk_cell BK227.out 5).trans rfl; have hcz9_6 : w8.cell? ⟨gb227, 6, none⟩ = some (.bool false) := (blk_cell BK227.out 6).trans rfl; have hcz9_7 : w8.cell? ⟨gb227, 7, none⟩ = some (.int .i64 0) := (blk_cell BK227.out 7).trans rfl; have hfz9_0 := blk_frozen BK227.out 0; have hfz9_1 := blk_frozen BK227.out 1; have hfz9_2 := blk_frozen BK227.out 2; have hfz9_3 := blk_frozen BK227.out 3; have hfz9_4 := blk_frozen BK227.out 4; have hfz9_5 := blk_frozen BK227.out 5; have hfz9_6 := blk_frozen BK227.out 6; have hfz9_7 := blk_frozen BK227.out 7) | ((with_reducible refine gate_store (t := 29) (p := 3) rfl ?_); refine store_event (t := 29) (p := 3) (v := ?vo_w10) (w1 := ((((((((w8.setCell ⟨gb227, 0, none⟩ (.int .i64 t219)).setCell ⟨gb227, 1, none⟩ (.int .i64 t220)).setCell ⟨gb227, 2, none⟩ (.int .i64 t221)).setCell ⟨gb227, 3, none⟩ (.int .i64 t222)).setCell ⟨gb227, 4, none⟩ (.int .i64 t223)).setCell ⟨gb227, 5, none⟩ (.int .i64 t224)).setCell ⟨gb227, 6, none⟩ (.bool t225)).setCell ⟨gb227, 7, none⟩ (.int .i64 t226))) ?hg ?ho ?hn ?hr ?_; (case ho => rfl); (case hg => rfl); (case hn => rfl); (case hr => first | (go_simp; done) | (go_simp; rfl)); intro w10 hw; have n0_ : Aside0 (w10.heap[gb227]? = some (.cells #[.int .i64 t219, .int .i64 t220, .int .i64 t221, .int .i64 t222, .int .i64 t223, .int .i64 t224, .bool t225, .int .i64 t226] 29 (0, 0))) := ⟨(by rw [hw]; exact (by (with_reducible repeat (first | refine blk_drewN ?_ _ | refine blk_drew ?_ | refine blk_alloc ?_ _)); refine blk_put (cs := #[.int .i64 t219, .int .i64 t220, .int .i64 t221, .int .i64 t222, .int .i64 t223, .int .i64 t224, .bool t225, .int .i64 0]) ?_ 7 _ rfl; (with_reducible repeat (first | refine blk_drewN ?_ _ | refine blk_drew ?_ | refine blk_alloc ?_ _)); refine blk_put (cs := #[.int .i64 t219, .int .i64 t220, .int .i64 t221, .int .i64 t222, .int .i64 t223, .int .i64 t224, .bool false, .int .i64 0]) ?_ 6 _ rfl; (with_reducible repeat (first | refine blk_drewN ?_ _ | refine blk_drew ?_ | refine blk_alloc ?_ _)); refine blk_put (cs := #[.int .i64 t219, .int .i64 t220, .int .i64 t221, .int .i64 t222, .int .i64 t223, .int .i64 0, .bool false, .int .i64 0]) ?_ 5 _ rfl; (with_reducible repeat (first | refine blk_drewN ?_ _ | refine blk_drew ?_ | refine blk_alloc ?_ _)); refine blk_put (cs := #[.int .i64 t219, .int .i64 t220, .int .i64 t221, .int .i64 t222, .int .i64 0, .int .i64 0, .bool false, .int .i64 0]) ?_ 4 _ rfl; (with_reducible repeat (first | refine blk_drewN ?_ _ | refine blk_drew ?_ | refine blk_alloc ?_ _)); refine blk_put (cs := #[.int .i64 t219, .int .i64 t220, .int .i64 t221, .int .i64 0, .int .i64 0, .int .i64 0, .bool false, .int .i64 0]) ?_ 3 _ rfl; (with_reducible repeat (first | refine blk_drewN ?_ _ | refine blk_drew ?_ | refine blk_alloc ?_ _)); refine blk_put (cs := #[.int .i64 t219, .int .i64 t220, .int .i64 0, .int .i64 0, .int .i64 0, .int .i64 0, .bool false, .int .i64 0]) ?_ 2 _ rfl; (with_reducible repeat (first | refine blk_drewN ?_ _ | refine blk_drew ?_ | refine blk_alloc ?_ _)); refine blk_put (cs := #[.int .i64 t219, .int .i64 0, .int .i64 0, .int .i64 0, .int .i64 0, .int .i64 0, .bool false, .int .i64 0]) ?_ 1 _ rfl; (with_reducible repeat (first | refine blk_drewN ?_ _ | refine blk_drew ?_ | refine blk_alloc ?_ _)); refine blk_put (cs := #[.int .i64 0, .int .i64 0, .int .i64 0, .int .i64 0, .int .i64 0, .int .i64 0, .bool false, .int .i64 0]) ?_ 0 _ rfl; (with_reducible repeat (first | refine blk_drewN ?_ _ | refine blk_drew ?_ | refine blk_alloc ?_ _)); exact BK227.out))⟩; have n1_ : Aside0 (Below w.heap.size w w10) := ⟨(by rw [hw]; exact (by repeat (first | (with_reducible first | exact HB.out | apply below_alloc | apply pw_below_drewN | apply below_drew1 | refine below_set ?_ GE227.out) | exact HB.out)))⟩; clear hw; clear BK227; clear HB; have BK227 := n0_; have HB := n1_; clear n0_ n1_; have hcz11_0 : w10.cell? ⟨gb227, 0, none⟩ = some (.int .i64 t219) := (blk_cell BK227.out 0).trans rfl; have hcz11_1 : w10.cell? ⟨gb227, 1, none⟩ = some (.int .i64 t220) := (blk_cell BK227.out 1).trans rfl; have hcz11_2 : w10.cell? ⟨gb227, 2, none⟩ = some (.int .i64 t221) := (blk_cell BK227.out 2).trans rfl; have hcz11_3 : w10.cell? ⟨gb227, 3, none⟩ = some (.int .i64 t222) := (blk_cell BK227.out 3).trans rfl; have hcz11_4 : w10.cell? ⟨gb227, 4, none⟩ = some (.int .i64 t223) := (blk_cell BK227.out 4).trans rfl; have hcz11_5 : w10.cell? ⟨gb227, 5, none⟩ = some (.int .i64 t224) := (blk_cell BK227.out 5).trans rfl; have hcz11_6 : w10.cell? ⟨gb227, 6, none⟩ = some (.bool t225) := (blk_cell BK227.out 6).trans rfl; have hcz11_7 : w10.cell? ⟨gb227, 7, none⟩ = some (.int .i64 t226) := (blk_cell BK227.out 7).trans rfl; have hfz11_0 := blk_frozen BK227.out 0; have hfz11_1 := blk_frozen BK227.out 1; have hfz11_2 := blk_frozen BK227.out 2; have hfz11_3 := blk_frozen BK227.out 3; have hfz11_4 := blk_frozen BK227.out 4; have hfz11_5 := blk_frozen BK227.out 5; have hfz11_6 := blk_frozen BK227.out 6; have hfz11_7 := blk_frozen BK227.out 7) | ((with_reducible refine gate_callee (f := 21) rfl ?_); refine goesL_ (some 15) rfl rfl Try.func21 (by kernel_rfl) rfl #[.agg #[.int .i64 t219, .int .i64 t220, .int .i64 t221, .int .i64 t222, .int .i64 t223, .int .i64 t224, .bool t225, .int .i64 t226]] rfl (by (try simp only [List.map_toArray, List.map_cons, List.map_nil]); first | done | rfl | (simp only [List.length_drop, List.length_take]; rfl)) ?_; (with_reducible refine (impl_SecondsOf.calls k t219 t220 t221 t222 t223 t224 t225 t226 t228 _ A5.out).mono ?_); rintro e w12 ⟨rfl, hb⟩; refine ⟨_, rfl, ?_⟩; have n0_ := Aside0.mk (blk_below (g := gb227) (o := .cells #[.int .i64 t219, .int .i64 t220, .int .i64 t221, .int .i64 t222, .int .i64 t223, .int .i64 t224, .bool t225, .int .i64 t226] 29 (0, 0)) (by (with_reducible repeat (first | refine blk_drewN ?_ _ | refine blk_drew ?_ | refine blk_alloc ?_ _)); exact BK227.out) hb); have n1_ := Aside0.mk (below_step (by repeat (first | (with_reducible first | exact HB.out | apply below_alloc | apply pw_below_drewN | apply below_drew1 | refine below_set ?_ GE227.out) | exact HB.out)) hb); clear BK227; clear HB; have BK227 := n0_; have HB := n1_; clear n0_ n1_; (try clear hb); (try clear hb2); (try clear hk); (try clear hi)))
  (try simp only [Act.put, List.setIfInBounds_toArray, List.set_cons_zero, List.set_cons_succ])
  go_cut [24] (fun v24 wc => ∃ (kq : Nat) (x24_5 : Bool), v24 = .bool x24_5 ∧ Aside0 (laws_FnNextDay.j0 kq t228 x24_5 t219 t220 t221 t222 t223 t224 t225 t226 = some r) ∧ Aside0 (kq ≤ k) ∧ Aside0 (wc.heap[gb227]? = some (.cells #[.int .i64 t219, .int .i64 t220, .int .i64 t221, .int .i64 t222, .int .i64 t223, .int .i64 t224, .bool t225, .int .i64 t226] 29 (0, 0))) ∧ Aside0 (Below w.heap.size w wc))
  case first =>
   have H := HC6.out
   clear HC6
   replace H := Option.bind_eq_some_iff.mp H
   obtain ⟨t229, A130, H⟩ := H
   replace H : (if t228 = t229 then ((spec_DateOk.f k t219 t220 t221 t222 t223 t224 t225 t226).bind fun t230 => (laws_FnNextDay.j0 k t228 (!t230) t219 t220 t221 t222 t223 t224 t225 t226)) else (laws_FnNextDay.j0 k t228 true t219 t220 t221 t222 t223 t224 t225 t226)) = some r := H
   have A13 := Aside0.mk A130
   clear A130
   by_cases c14 : t228 = t229
   ·rw [if_pos c14] at H
    have c14b0 : (t228 == t229) = true := beq_iff_eq.mpr c14
    have c14b1 : (t228 != t229) = false := bne_eq_false_iff_eq.mpr c14
    clear c14
    (first | rw [c14b0] | (simp only [i64_w, i32_w]; rw [c14b0]) | skip)
    replace H := Option.bind_eq_some_iff.mp H
    obtain ⟨t230, A150, H⟩ := H
    replace H : (laws_FnNextDay.j0 k t228 (!t230) t219 t220 t221 t222 t223 t224 t225 t226) = some r := H
    have A15 := Aside0.mk A150
    clear A150
    have H' := Aside0.mk H
    clear H
    have hcz16_0 : w12.cell? ⟨gb227, 0, none⟩ = some (.int .i64 t219) := (blk_cell BK227.out 0).trans rfl
    have hcz16_1 : w12.cell? ⟨gb227, 1, none⟩ = some (.int .i64 t220) := (blk_cell BK227.out 1).trans rfl
    have hcz16_2 : w12.cell? ⟨gb227, 2, none⟩ = some (.int .i64 t221) := (blk_cell BK227.out 2).trans rfl
    have hcz16_3 : w12.cell? ⟨gb227, 3, none⟩ = some (.int .i64 t222) := (blk_cell BK227.out 3).trans rfl
    have hcz16_4 : w12.cell? ⟨gb227, 4, none⟩ = some (.int .i64 t223) := (blk_cell BK227.out 4).trans rfl
    have hcz16_5 : w12.cell? ⟨gb227, 5, none⟩ = some (.int .i64 t224) := (blk_cell BK227.out 5).trans rfl
    have hcz16_6 : w12.cell? ⟨gb227, 6, none⟩ = some (.bool t225) := (blk_cell BK227.out 6).trans rfl
    have hcz16_7 : w12.cell? ⟨gb227, 7, none⟩ = some (.int .i64 t226) := (blk_cell BK227.out 7).trans rfl
    have hfz16_0 := blk_frozen BK227.out 0
    have hfz16_1 := blk_frozen BK227.out 1
    have hfz16_2 := blk_frozen BK227.out 2
    have hfz16_3 := blk_frozen BK227.out 3
    have hfz16_4 := blk_frozen BK227.out 4
    have hfz16_5 := blk_frozen BK227.out 5
    have hfz16_6 := blk_frozen BK227.out 6
    have hfz16_7 := blk_frozen BK227.out 7
    go_wp2_with (first | ((with_reducible refine gate_callee (f := 20) rfl ?_); refine goesL_ (some 18) rfl rfl Try.func20 (by kernel_rfl) rfl #[.agg #[.int .i64 t219, .int .i64 t220, .int .i64 t221, .int .i64 t222, .int .i64 t223, .int .i64 t224, .bool t225, .int .i64 t226]] rfl (by (try simp only [List.map_toArray, List.map_cons, List.map_nil]); first | done | rfl | (simp only [List.length_drop, List.length_take]; rfl)) ?_; (with_reducible refine (spec_SecondsOf.calls k t219 t220 t221 t222 t223 t224 t225 t226 t229 _ A13.out).mono ?_); rintro e w17 ⟨rfl, hb⟩; refine ⟨_, rfl, ?_⟩; have n0_ := Aside0.mk (blk_below (g := gb227) (o := .cells #[.int .i64 t219, .int .i64 t220, .int .i64 t221, .int .i64 t222, .int .i64 t223, .int .i64 t224, .bool t225, .int .i64 t226] 29 (0, 0)) (by (with_reducible repeat (first | refine blk_drewN ?_ _ | refine blk_drew ?_ | refine blk_alloc ?_ _)); exact BK227.out) hb); have n1_ := Aside0.mk (below_step (by repeat (first | (with_reducible first | exact HB.out | apply below_alloc | apply pw_below_drewN | apply below_drew1 | refine below_set ?_ GE227.out) | exact HB.out)) hb); clear BK227; clear HB; have BK227 := n0_; have HB := n1_; clear n0_ n1_; (try clear hb); (try clear hb2); (try clear hk); (try clear hi); have hcz18_0 : w17.cell? ⟨gb227, 0, none⟩ = some (.int .i64 t219) := (blk_cell BK227.out 0).trans rfl; have hcz18_1 : w17.cell? ⟨gb227, 1, none⟩ = some (.int .i64 t220) := (blk_cell BK227.out 1).trans rfl; have hcz18_2 : w17.cell? ⟨gb227, 2, none⟩ = some (.int .i64 t221) := (blk_cell BK227.out 2).trans rfl; have hcz18_3 : w17.cell? ⟨gb227, 3, none⟩ = some (.int .i64 t222) := (blk_cell BK227.out 3).trans rfl; have hcz18_4 : w17.cell? ⟨gb227, 4, none⟩ = some (.int .i64 t223) := (blk_cell BK227.out 4).trans rfl; have hcz18_5 : w17.cell? ⟨gb227, 5, none⟩ = some (.int .i64 t224) := (blk_cell BK227.out 5).trans rfl; have hcz18_6 : w17.cell? ⟨gb227, 6, none⟩ = some (.bool t225) := (blk_cell BK227.out 6).trans rfl; have hcz18_7 : w17.cell? ⟨gb227, 7, none⟩ = some (.int .i64 t226) := (blk_cell BK227.out 7).trans rfl; have hfz18_0 := blk_frozen BK227.out 0; have hfz18_1 := blk_frozen BK227.out 1; have hfz18_2 := blk_frozen BK227.out 2; have hfz18_3 := blk_frozen BK227.out 3; have hfz18_4 := blk_frozen BK227.out 4; have hfz18_5 := blk_frozen BK227.out 5; have hfz18_6 := blk_frozen BK227.out 6; have hfz18_7 := blk_frozen BK227.out 7) | (go_at_call 17; (with_reducible refine (spec_DateOk.calls k t219 t220 t221 t222 t223 t224 t225 t226 t230 _ A15.out).mono ?_); rintro e w19 ⟨rfl, hb⟩; have n0_ := Aside0.mk (blk_below (g := gb227) (o := .cells #[.int .i64 t219, .int .i64 t220, .int .i64 t221, .int .i64 t222, .int .i64 t223, .int .i64 t224, .bool t225, .int .i64 t226] 29 (0, 0)) (by (with_reducible repeat (first | refine blk_drewN ?_ _ | refine blk_drew ?_ | refine blk_alloc ?_ _)); exact BK227.out) hb); have n1_ := Aside0.mk (below_step (by repeat (first | (with_reducible first | exact HB.out | apply below_alloc | apply pw_below_drewN | apply below_drew1 | refine below_set ?_ GE227.out) | exact HB.out)) hb); clear BK227; clear HB; have BK227 := n0_; have HB := n1_; clear n0_ n1_; (try clear hb); (try clear hb2); (try clear hk); (try clear hi)))
    go_meet
    case rel => exact ⟨_, (!t230), (by first | rfl | (simp; done) | (simp [*]; done)), H', ⟨by first | omega | exact Nat.le_refl _⟩, ⟨by (with_reducible repeat (first | refine blk_drewN ?_ _ | refine blk_drew ?_ | refine blk_alloc ?_ _)); exact BK227.out⟩, ⟨by repeat (first | (with_reducible first | exact HB.out | apply below_alloc | apply pw_below_drewN | apply below_drew1 | refine below_set ?_ GE227.out) | exact HB.out)⟩⟩
   ·rw [if_neg c14] at H
    have c14b0 : (t228 == t229) = false := beq_eq_false_iff_ne.mpr c14
    have c14b1 : (t228 != t229) = true := bne_iff_ne.mpr c14
    (first | rw [c14b0] | (simp only [i64_w, i32_w]; rw [c14b0]) | skip)
    have H' := Aside0.mk H
    clear H
    have hcz20_0 : w12.cell? ⟨gb227, 0, none⟩ = some (.int .i64 t219) := (blk_cell BK227.out 0).trans rfl
    have hcz20_1 : w12.cell? ⟨gb227, 1, none⟩ = some (.int .i64 t220) := (blk_cell BK227.out 1).trans rfl
    have hcz20_2 : w12.cell? ⟨gb227, 2, none⟩ = some (.int .i64 t221) := (blk_cell BK227.out 2).trans rfl
    have hcz20_3 : w12.cell? ⟨gb227, 3, none⟩ = some (.int .i64 t222) := (blk_cell BK227.out 3).trans rfl
    have hcz20_4 : w12.cell? ⟨gb227, 4, none⟩ = some (.int .i64 t223) := (blk_cell BK227.out 4).trans rfl
    have hcz20_5 : w12.cell? ⟨gb227, 5, none⟩ = some (.int .i64 t224) := (blk_cell BK227.out 5).trans rfl
    have hcz20_6 : w12.cell? ⟨gb227, 6, none⟩ = some (.bool t225) := (blk_cell BK227.out 6).trans rfl
    have hcz20_7 : w12.cell? ⟨gb227, 7, none⟩ = some (.int .i64 t226) := (blk_cell BK227.out 7).trans rfl
    have hfz20_0 := blk_frozen BK227.out 0
    have hfz20_1 := blk_frozen BK227.out 1
    have hfz20_2 := blk_frozen BK227.out 2
    have hfz20_3 := blk_frozen BK227.out 3
    have hfz20_4 := blk_frozen BK227.out 4
    have hfz20_5 := blk_frozen BK227.out 5
    have hfz20_6 := blk_frozen BK227.out 6
    have hfz20_7 := blk_frozen BK227.out 7
    go_wp2_with (first | ((with_reducible refine gate_callee (f := 20) rfl ?_); refine goesL_ (some 18) rfl rfl Try.func20 (by kernel_rfl) rfl #[.agg #[.int .i64 t219, .int .i64 t220, .int .i64 t221, .int .i64 t222, .int .i64 t223, .int .i64 t224, .bool t225, .int .i64 t226]] rfl (by (try simp only [List.map_toArray, List.map_cons, List.map_nil]); first | done | rfl | (simp only [List.length_drop, List.length_take]; rfl)) ?_; (with_reducible refine (spec_SecondsOf.calls k t219 t220 t221 t222 t223 t224 t225 t226 t229 _ A13.out).mono ?_); rintro e w21 ⟨rfl, hb⟩; refine ⟨_, rfl, ?_⟩; have n0_ := Aside0.mk (blk_below (g := gb227) (o := .cells #[.int .i64 t219, .int .i64 t220, .int .i64 t221, .int .i64 t222, .int .i64 t223, .int .i64 t224, .bool t225, .int .i64 t226] 29 (0, 0)) (by (with_reducible repeat (first | refine blk_drewN ?_ _ | refine blk_drew ?_ | refine blk_alloc ?_ _)); exact BK227.out) hb); have n1_ := Aside0.mk (below_step (by repeat (first | (with_reducible first | exact HB.out | apply below_alloc | apply pw_below_drewN | apply below_drew1 | refine below_set ?_ GE227.out) | exact HB.out)) hb); clear BK227; clear HB; have BK227 := n0_; have HB := n1_; clear n0_ n1_; (try clear hb); (try clear hb2); (try clear hk); (try clear hi)))
    go_meet
    case rel => exact ⟨_, (true), (by first | rfl | (simp; done) | (simp [*]; done)), H', ⟨by first | omega | exact Nat.le_refl _⟩, ⟨by (with_reducible repeat (first | refine blk_drewN ?_ _ | refine blk_drew ?_ | refine blk_alloc ?_ _)); exact BK227.out⟩, ⟨by repeat (first | (with_reducible first | exact HB.out | apply below_alloc | apply pw_below_drewN | apply below_drew1 | refine below_set ?_ GE227.out) | exact HB.out)⟩⟩
  case rest =>
   clear HC6
   try clear c1
   try clear c2
   try clear p2
   try clear c3
   try clear c9
   try clear c14
   try clear c14b0
   try clear c14b1
   try clear c20
   try clear c21
   try clear hcz11_0
   try clear hcz11_1
   try clear hcz11_2
   try clear hcz11_3
   try clear hcz11_4
   try clear hcz11_5
   try clear hcz11_6
   try clear hcz11_7
   try clear hcz16_0
   try clear hcz16_1
   try clear hcz16_2
   try clear hcz16_3
   try clear hcz16_4
   try clear hcz16_5
   try clear hcz16_6
   try clear hcz16_7
   try clear hcz18_0
   try clear hcz18_1
   try clear hcz18_2
   try clear hcz18_3
   try clear hcz18_4
   try clear hcz18_5
   try clear hcz18_6
   try clear hcz18_7
   try clear hcz20_0
   try clear hcz20_1
   try clear hcz20_2
   try clear hcz20_3
   try clear hcz20_4
   try clear hcz20_5
   try clear hcz20_6
   try clear hcz20_7
   try clear hcz9_0
   try clear hcz9_1
   try clear hcz9_2
   try clear hcz9_3
   try clear hcz9_4
   try clear hcz9_5
   try clear hcz9_6
   try clear hcz9_7
   try clear hfz11_0
   try clear hfz11_1
   try clear hfz11_2
   try clear hfz11_3
   try clear hfz11_4
   try clear hfz11_5
   try clear hfz11_6
   try clear hfz11_7
   try clear hfz16_0
   try clear hfz16_1
   try clear hfz16_2
   try clear hfz16_3
   try clear hfz16_4
   try clear hfz16_5
   try clear hfz16_6
   try clear hfz16_7
   try clear hfz18_0
   try clear hfz18_1
   try clear hfz18_2
   try clear hfz18_3
   try clear hfz18_4
   try clear hfz18_5
   try clear hfz18_6
   try clear hfz18_7
   try clear hfz20_0
   try clear hfz20_1
   try clear hfz20_2
   try clear hfz20_3
   try clear hfz20_4
   try clear hfz20_5
   try clear hfz20_6
   try clear hfz20_7
   try clear hfz9_0
   try clear hfz9_1
   try clear hfz9_2
   try clear hfz9_3
   try clear hfz9_4
   try clear hfz9_5
   try clear hfz9_6
   try clear hfz9_7
   obtain ⟨kq, x24_5, rfl, HA, HJ5, BK227, HB⟩ := hcut
   cases kq with
   | zero => exact absurd HA.out (by simp [laws_FnNextDay.j0])
   | succ kj5 =>
    have H := HA.out
    clear HA
    simp only [laws_FnNextDay.j0] at H
    by_cases c22 : x24_5 = true
    ·subst c22
     have H1 : ((spec_SecondsOf.f kj5 t219 t220 t221 t222 t223 t224 t225 t226).bind fun t231 => (some (t228 == t231))) = some r := by rw [if_pos rfl] at H; exact H
     clear H
     have H := H1
     clear H1
     replace H := Option.bind_eq_some_iff.mp H
     obtain ⟨t231, A230, H⟩ := H
     replace H : (some (t228 == t231)) = some r := H
     have A23 := Aside0.mk A230
     clear A230
     obtain rfl := Option.some.inj H
     have hcz24_0 : wc.cell? ⟨gb227, 0, none⟩ = some (.int .i64 t219) := (blk_cell BK227.out 0).trans rfl
     have hcz24_1 : wc.cell? ⟨gb227, 1, none⟩ = some (.int .i64 t220) := (blk_cell BK227.out 1).trans rfl
     have hcz24_2 : wc.cell? ⟨gb227, 2, none⟩ = some (.int .i64 t221) := (blk_cell BK227.out 2).trans rfl
     have hcz24_3 : wc.cell? ⟨gb227, 3, none⟩ = some (.int .i64 t222) := (blk_cell BK227.out 3).trans rfl
     have hcz24_4 : wc.cell? ⟨gb227, 4, none⟩ = some (.int .i64 t223) := (blk_cell BK227.out 4).trans rfl
     have hcz24_5 : wc.cell? ⟨gb227, 5, none⟩ = some (.int .i64 t224) := (blk_cell BK227.out 5).trans rfl
     have hcz24_6 : wc.cell? ⟨gb227, 6, none⟩ = some (.bool t225) := (blk_cell BK227.out 6).trans rfl
     have hcz24_7 : wc.cell? ⟨gb227, 7, none⟩ = some (.int .i64 t226) := (blk_cell BK227.out 7).trans rfl
     have hfz24_0 := blk_frozen BK227.out 0
     have hfz24_1 := blk_frozen BK227.out 1
     have hfz24_2 := blk_frozen BK227.out 2
     have hfz24_3 := blk_frozen BK227.out 3
     have hfz24_4 := blk_frozen BK227.out 4
     have hfz24_5 := blk_frozen BK227.out 5
     have hfz24_6 := blk_frozen BK227.out 6
     have hfz24_7 := blk_frozen BK227.out 7
     go_wp2_with (first | ((with_reducible refine gate_callee (f := 20) rfl ?_); refine goesL_ (some 27) rfl rfl Try.func20 (by kernel_rfl) rfl #[.agg #[.int .i64 t219, .int .i64 t220, .int .i64 t221, .int .i64 t222, .int .i64 t223, .int .i64 t224, .bool t225, .int .i64 t226]] rfl (by (try simp only [List.map_toArray, List.map_cons, List.map_nil]); first | done | rfl | (simp only [List.length_drop, List.length_take]; rfl)) ?_; (with_reducible refine (spec_SecondsOf.calls kj5 t219 t220 t221 t222 t223 t224 t225 t226 t231 _ A23.out).mono ?_); rintro e w25 ⟨rfl, hb⟩; refine ⟨_, rfl, ?_⟩; have n0_ := Aside0.mk (blk_below (g := gb227) (o := .cells #[.int .i64 t219, .int .i64 t220, .int .i64 t221, .int .i64 t222, .int .i64 t223, .int .i64 t224, .bool t225, .int .i64 t226] 29 (0, 0)) (by (with_reducible repeat (first | refine blk_drewN ?_ _ | refine blk_drew ?_ | refine blk_alloc ?_ _)); exact BK227.out) hb); have n1_ := Aside0.mk (below_step (by repeat (first | (with_reducible first | exact HB.out | apply below_alloc | apply pw_below_drewN | apply below_drew1 | refine below_set ?_ GE227.out) | exact HB.out)) hb); clear BK227; clear HB; have BK227 := n0_; have HB := n1_; clear n0_ n1_; (try clear hb); (try clear hb2); (try clear hk); (try clear hi)))
     go_ret
     exact ⟨by first | rfl | (simp [*] <;> rfl), by repeat (first | (with_reducible first | exact HB.out | apply below_alloc | apply pw_below_drewN | apply below_drew1 | refine below_set ?_ GE227.out) | exact HB.out)⟩
    ·replace c22 := Bool.eq_false_iff.mpr c22
     subst c22
     have H1 : ((impl_DaysIn.f t219 t220).bind fun t232 => (if t220 = 12 then (laws_FnNextDay.j1 kj5 t219 t220 t221 t222 t223 t224 t225 t226 t219 t220 t232 23 59 59 t225 t226 (wrap64 (t219 + 1)) 1 1 0 0 0 t225 t226) else (laws_FnNextDay.j1 kj5 t219 t220 t221 t222 t223 t224 t225 t226 t219 t220 t232 23 59 59 t225 t226 t219 (wrap64 (t220 + 1)) 1 0 0 0 t225 t226))) = some r := by rw [if_neg (show ¬ (false = true) by decide)] at H; exact H
     clear H
     have H := H1
     clear H1
     replace H := Option.bind_eq_some_iff.mp H
     obtain ⟨t232, A260, H⟩ := H
     replace H : (if t220 = 12 then (laws_FnNextDay.j1 kj5 t219 t220 t221 t222 t223 t224 t225 t226 t219 t220 t232 23 59 59 t225 t226 (wrap64 (t219 + 1)) 1 1 0 0 0 t225 t226) else (laws_FnNextDay.j1 kj5 t219 t220 t221 t222 t223 t224 t225 t226 t219 t220 t232 23 59 59 t225 t226 t219 (wrap64 (t220 + 1)) 1 0 0 0 t225 t226)) = some r := H
     have A26 := Aside0.mk A260
     clear A260
     have HC27 := Aside0.mk H
     clear H
     try go_wp2
     have n0_ := Aside0.mk (blk_drew BK227.out)
     have n1_ := Aside0.mk (below_drew1 HB.out)
     clear BK227
     clear HB
     have BK227 := n0_
     have HB := n1_
     clear n0_ n1_
     refine start_ (n := 16) (S := fun w' => w'.cell? ⟨gb227, 0, none⟩ = some (.int .i64 t219) ∧ w'.cell? ⟨gb227, 1, none⟩ = some (.int .i64 t220) ∧ w'.cell? ⟨gb227, 2, none⟩ = some (.int .i64 t221) ∧ w'.cell? ⟨gb227, 3, none⟩ = some (.int .i64 t222) ∧ w'.cell? ⟨gb227, 4, none⟩ = some (.int .i64 t223) ∧ w'.cell? ⟨gb227, 5, none⟩ = some (.int .i64 t224) ∧ w'.cell? ⟨gb227, 6, none⟩ = some (.bool t225) ∧ w'.cell? ⟨gb227, 7, none⟩ = some (.int .i64 t226)) (ds := []) #[false, false, false, false, false, false, false, false, false, false, false, false, false, false, false, false] (by kernel_rfl) rfl rfl ⟨(blk_cell BK227.out 0).trans rfl, (blk_cell BK227.out 1).trans rfl, (blk_cell BK227.out 2).trans rfl, (blk_cell BK227.out 3).trans rfl, (blk_cell BK227.out 4).trans rfl, (blk_cell BK227.out 5).trans rfl, (blk_cell BK227.out 6).trans rfl, (blk_cell BK227.out 7).trans rfl⟩ (fun hHeld => ?_); refine with_tabW laws_FnNextDay.tab7 laws_FnNextDay.bits7 (fun HT_ HW_ => ?_)
     generalize wc.drew = w28 at BK227 HB hHeld ⊢
     refine pure_ (i := 0) (N := some 29) (v := ?_) (a' := ?_) #[true, false, false, false, false, false, false, false, false, false, false, false, false, false, false, false] rfl rfl (any_of HT_.out (by kernel_rfl)) (fun _ _ _ h => h) (Or.inl ⟨by rfl, ?_⟩) ?_ ?_
     rotate_left
     ·intro w'
      go_simp
      with_reducible rfl
     rotate_left
     ·simp only [Act.put, List.setIfInBounds_toArray, List.set_cons_zero, List.set_cons_succ, i64_w, i32_w]
      rfl
     refine pure_ (i := 2) (N := some 31) (v := ?_) (a' := ?_) #[true, false, true, false, false, false, false, false, false, false, false, false, false, false, false, false] rfl rfl (any_of HT_.out (by kernel_rfl)) (fun _ _ _ h => h) (Or.inl ⟨by rfl, ?_⟩) ?_ ?_
     rotate_left
     ·intro w'
      go_simp
      with_reducible rfl
     rotate_left
     ·simp only [Act.put, List.setIfInBounds_toArray, List.set_cons_zero, List.set_cons_succ, i64_w, i32_w]
      rfl
     refine pure_ (i := 4) (N := some 33) (v := ?_) (a' := ?_) #[true, false, true, false, true, false, false, false, false, false, false, false, false, false, false, false] rfl rfl (any_of HT_.out (by kernel_rfl)) (fun _ _ _ h => h) (Or.inl ⟨by rfl, ?_⟩) ?_ ?_
     rotate_left
     ·intro w'
      go_simp
      with_reducible rfl
     rotate_left
     ·simp only [Act.put, List.setIfInBounds_toArray, List.set_cons_zero, List.set_cons_succ, i64_w, i32_w]
      rfl
     refine pure_ (i := 6) (N := some 35) (v := ?_) (a' := ?_) #[true, false, true, false, true, false, true, false, false, false, false, false, false, false, false, false] rfl rfl (any_of HT_.out (by kernel_rfl)) (fun _ _ _ h => h) (Or.inl ⟨by rfl, ?_⟩) ?_ ?_
     rotate_left
     ·intro w'
      go_simp
      with_reducible rfl
     rotate_left
     ·simp only [Act.put, List.setIfInBounds_toArray, List.set_cons_zero, List.set_cons_succ, i64_w, i32_w]
      rfl
     refine pure_ (i := 9) (N := some 38) (v := ?_) (a' := ?_) #[true, false, true, false, true, false, true, false, false, true, false, false, false, false, false, false] rfl rfl (any_of HT_.out (by kernel_rfl)) (fun _ _ _ h => h) (Or.inl ⟨by rfl, ?_⟩) ?_ ?_
     rotate_left
     ·intro w'
      go_simp
      with_reducible rfl
     rotate_left
     ·simp only [Act.put, List.setIfInBounds_toArray, List.set_cons_zero, List.set_cons_succ, i64_w, i32_w]
      rfl
     refine pure_ (i := 11) (N := some 40) (v := ?_) (a' := ?_) #[true, false, true, false, true, false, true, false, false, true, false, true, false, false, false, false] rfl rfl (any_of HT_.out (by kernel_rfl)) (fun _ _ _ h => h) (Or.inl ⟨by rfl, ?_⟩) ?_ ?_
     rotate_left
     ·intro w'
      go_simp
      with_reducible rfl
     rotate_left
     ·simp only [Act.put, List.setIfInBounds_toArray, List.set_cons_zero, List.set_cons_succ, i64_w, i32_w]
      rfl
     refine take_ (i := 1) (N := some 30) (v := ?_) (a' := ?_) #[true, true, true, false, true, false, true, false, false, true, false, true, false, false, false, false] rfl rfl (take_ofW HT_.out HW_.out (by kernel_rfl)) (fun _ _ _ h => h) (Or.inl ⟨by rfl, ?_⟩) hHeld ?_ ?_
     rotate_left
     ·rintro w' ⟨s0, s1, s2, s3, s4, s5, s6, s7⟩
      go_simp
      with_reducible rfl
     rotate_left
     ·simp only [Act.put, List.setIfInBounds_toArray, List.set_cons_zero, List.set_cons_succ, i64_w, i32_w]
      rfl
     refine take_ (i := 3) (N := some 32) (v := ?_) (a' := ?_) #[true, true, true, true, true, false, true, false, false, true, false, true, false, false, false, false] rfl rfl (take_ofW HT_.out HW_.out (by kernel_rfl)) (fun _ _ _ h => h) (Or.inl ⟨by rfl, ?_⟩) hHeld ?_ ?_
     rotate_left
     ·rintro w' ⟨s0, s1, s2, s3, s4, s5, s6, s7⟩
      go_simp
      with_reducible rfl
     rotate_left
     ·simp only [Act.put, List.setIfInBounds_toArray, List.set_cons_zero, List.set_cons_succ, i64_w, i32_w]
      rfl
     refine take_ (i := 5) (N := some 34) (v := ?_) (a' := ?_) #[true, true, true, true, true, true, true, false, false, true, false, true, false, false, false, false] rfl rfl (take_ofW HT_.out HW_.out (by kernel_rfl)) (fun _ _ _ h => h) (Or.inl ⟨by rfl, ?_⟩) hHeld ?_ ?_
     rotate_left
     ·rintro w' ⟨s0, s1, s2, s3, s4, s5, s6, s7⟩
      go_simp
      with_reducible rfl
     rotate_left
     ·simp only [Act.put, List.setIfInBounds_toArray, List.set_cons_zero, List.set_cons_succ, i64_w, i32_w]
      rfl
     refine take_ (i := 7) (N := some 36) (v := ?_) (a' := ?_) #[true, true, true, true, true, true, true, true, false, true, false, true, false, false, false, false] rfl rfl (take_ofW HT_.out HW_.out (by kernel_rfl)) (fun _ _ _ h => h) (Or.inl ⟨by rfl, ?_⟩) hHeld ?_ ?_
     rotate_left
     ·rintro w' ⟨s0, s1, s2, s3, s4, s5, s6, s7⟩
      go_simp
      with_reducible rfl
     rotate_left
     ·simp only [Act.put, List.setIfInBounds_toArray, List.set_cons_zero, List.set_cons_succ, i64_w, i32_w]
      rfl
     refine take_ (i := 10) (N := some 39) (v := ?_) (a' := ?_) #[true, true, true, true, true, true, true, true, false, true, true, true, false, false, false, false] rfl rfl (take_ofW HT_.out HW_.out (by kernel_rfl)) (fun _ _ _ h => h) (Or.inl ⟨by rfl, ?_⟩) hHeld ?_ ?_
     rotate_left
     ·rintro w' ⟨s0, s1, s2, s3, s4, s5, s6, s7⟩
      go_simp
      with_reducible rfl
     rotate_left
     ·simp only [Act.put, List.setIfInBounds_toArray, List.set_cons_zero, List.set_cons_succ, i64_w, i32_w]
      rfl
     refine take_ (i := 12) (N := some 41) (v := ?_) (a' := ?_) #[true, true, true, true, true, true, true, true, false, true, true, true, true, false, false, false] rfl rfl (take_ofW HT_.out HW_.out (by kernel_rfl)) (fun _ _ _ h => h) (Or.inl ⟨by rfl, ?_⟩) hHeld ?_ ?_
     rotate_left
     ·rintro w' ⟨s0, s1, s2, s3, s4, s5, s6, s7⟩
      go_simp
      with_reducible rfl
     rotate_left
     ·simp only [Act.put, List.setIfInBounds_toArray, List.set_cons_zero, List.set_cons_succ, i64_w, i32_w]
      rfl
     refine join_ (σ := Nat) 1 #[true, true, true, true, true, true, true, true, true, true, true, true, true, true, true, false] (fun s_ => [(37, .int .i64 t232), (5, .pointer (some ⟨s_, 0, none⟩)), (42, .agg #[.int .i64 t219, .int .i64 t220, .int .i64 t232, .int .i64 23, .int .i64 59, .int .i64 59, .bool t225, .int .i64 t226])]) (fun s_ w' => (w'.cell? ⟨gb227, 0, none⟩ = some (.int .i64 t219) ∧ w'.cell? ⟨gb227, 1, none⟩ = some (.int .i64 t220) ∧ w'.cell? ⟨gb227, 2, none⟩ = some (.int .i64 t221) ∧ w'.cell? ⟨gb227, 3, none⟩ = some (.int .i64 t222) ∧ w'.cell? ⟨gb227, 4, none⟩ = some (.int .i64 t223) ∧ w'.cell? ⟨gb227, 5, none⟩ = some (.int .i64 t224) ∧ w'.cell? ⟨gb227, 6, none⟩ = some (.bool t225) ∧ w'.cell? ⟨gb227, 7, none⟩ = some (.int .i64 t226)) ∧ (w'.heap[gb227]? = some (.cells #[.int .i64 t219, .int .i64 t220, .int .i64 t221, .int .i64 t222, .int .i64 t223, .int .i64 t224, .bool t225, .int .i64 t226] 29 (0, 0))) ∧ (w'.heap[s_]? = some (.cells #[.int .i64 0, .int .i64 0, .int .i64 0, .int .i64 0, .int .i64 0, .int .i64 0, .bool false, .int .i64 0] 29 (0, 0))) ∧ (w.heap.size ≤ s_) ∧ (w.heap.size ≤ s_) ∧ (gb227 ≠ s_) ∧ (s_ ≠ gb227) ∧ (Below w.heap.size w w')) ?_ ?_
     rotate_left
     ·intro hCont
      refine two_ (i := 8) (j := 14) (Ni := some 37) (Nj := some 5) #[true, true, true, true, true, true, true, true, true, true, true, true, true, false, false, false] #[true, true, true, true, true, true, true, true, false, true, true, true, true, false, true, false] rfl rfl rfl rfl (two_of HT_.out (by kernel_rfl)) (by decide) (by decide) (fun K hK => ?_) (fun K hK => ?_)
      ·skip
       refine goes_ Try.func16 (by kernel_rfl) rfl #[.int .i64 t219, .int .i64 t220] (by rfl) rfl rfl (by (try simp only [List.map_toArray, List.map_cons, List.map_nil]); first | done | rfl | (simp only [List.length_drop, List.length_take]; rfl)) ?_
       with_reducible refine (impl_DaysIn.calls t219 t220 t232 _ A26.out).mono ?_
       rintro e w' ⟨rfl, ⟨nd, rfl⟩⟩
       refine ⟨_, rfl, ?_⟩
       refine hK.out _ _ ⟨(blk_cell BK227.out 0).trans rfl, (blk_cell BK227.out 1).trans rfl, (blk_cell BK227.out 2).trans rfl, (blk_cell BK227.out 3).trans rfl, (blk_cell BK227.out 4).trans rfl, (blk_cell BK227.out 5).trans rfl, (blk_cell BK227.out 6).trans rfl, (blk_cell BK227.out 7).trans rfl⟩ (fun hHeld => ?_)
       clear hK K
       refine norm_ (a' := ?_) ?_ ?_
       rotate_left
       ·show Act.put _ (some 37) _ = _
        simp only [Act.put, List.setIfInBounds_toArray, List.set_cons_zero, List.set_cons_succ, i64_w, i32_w]
        rfl
       refine pure_ (i := 13) (N := some 42) (v := ?_) (a' := ?_) #[true, true, true, true, true, true, true, true, true, true, true, true, true, true, false, false] rfl rfl (any_of HT_.out (by kernel_rfl)) (fun _ _ _ h => h) (Or.inl ⟨by rfl, ?_⟩) ?_ ?_
       rotate_left
       ·intro w'
        go_simp
        with_reducible rfl
       rotate_left
       ·simp only [Act.put, List.setIfInBounds_toArray, List.set_cons_zero, List.set_cons_succ, i64_w, i32_w]
        rfl
       refine one_ (i := 14) (N := some 5) #[true, true, true, true, true, true, true, true, true, true, true, true, true, true, true, false] rfl rfl (one_of HT_.out (by kernel_rfl)) (by decide) (fun K hK => ?_)
       refine box_step ?hg (N := 5) ?hd (cs := #[.int .i64 0, .int .i64 0, .int .i64 0, .int .i64 0, .int .i64 0, .int .i64 0, .bool false, .int .i64 0]) (t := 29) ?hr ?_; (case hd => rfl); (case hg => rfl); (case hr => first | (go_simp; done) | (go_simp; rfl))
       intro gb233 hg w29 hbox hb
       have n0_ := Aside0.mk (blk_below (g := gb227) (o := .cells #[.int .i64 t219, .int .i64 t220, .int .i64 t221, .int .i64 t222, .int .i64 t223, .int .i64 t224, .bool t225, .int .i64 t226] 29 (0, 0)) (by (with_reducible repeat (first | refine blk_drewN ?_ _ | refine blk_drew ?_ | refine blk_alloc ?_ _)); exact BK227.out) hb)
       have n1_ := Aside0.mk (below_step (by repeat (first | (with_reducible first | exact HB.out | apply below_alloc | apply pw_below_drewN | apply below_drew1 | refine below_set ?_ GE227.out) | exact HB.out)) hb)
       have n2_ := Aside0.mk (hbox)
       have n3_ := Aside0.mk ((by rw [hg]; exact (below_size (by repeat (first | (with_reducible first | exact HB.out | apply below_alloc | apply pw_below_drewN | apply below_drew1 | refine below_set ?_ GE227.out) | exact HB.out))) : w.heap.size ≤ gb233))
       have n4_ := Aside0.mk ((by rw [hg]; exact (below_size (by repeat (first | (with_reducible first | exact HB.out | apply below_alloc | apply pw_below_drewN | apply below_drew1 | refine below_set ?_ GE227.out) | exact HB.out))) : w.heap.size ≤ gb233))
       have n5_ := Aside0.mk ((by rw [hg]; exact Nat.ne_of_lt (blk_lt (g := gb227) (o := .cells #[.int .i64 t219, .int .i64 t220, .int .i64 t221, .int .i64 t222, .int .i64 t223, .int .i64 t224, .bool t225, .int .i64 t226] 29 (0, 0)) (by (with_reducible repeat (first | refine blk_drewN ?_ _ | refine blk_drew ?_ | refine blk_alloc ?_ _)); exact BK227.out)) : gb227 ≠ gb233))
       have n6_ := Aside0.mk ((by rw [hg]; exact Nat.ne_of_gt (blk_lt (g := gb227) (o := .cells #[.int .i64 t219, .int .i64 t220, .int .i64 t221, .int .i64 t222, .int .i64 t223, .int .i64 t224, .bool t225, .int .i64 t226] 29 (0, 0)) (by (with_reducible repeat (first | refine blk_drewN ?_ _ | refine blk_drew ?_ | refine blk_alloc ?_ _)); exact BK227.out)) : gb233 ≠ gb227))
       clear BK227
       clear HB
       have BK227 := n0_
       have HB := n1_
       have BK233 := n2_
       have GW233 := n3_
       have GE233 := n4_
       have NB227_233 := n5_
       have NB233_227 := n6_
       clear n0_ n1_ n2_ n3_ n4_ n5_ n6_
       clear hb hbox hg
       refine hK.out _ _ ⟨(blk_cell BK227.out 0).trans rfl, (blk_cell BK227.out 1).trans rfl, (blk_cell BK227.out 2).trans rfl, (blk_cell BK227.out 3).trans rfl, (blk_cell BK227.out 4).trans rfl, (blk_cell BK227.out 5).trans rfl, (blk_cell BK227.out 6).trans rfl, (blk_cell BK227.out 7).trans rfl⟩ (fun hHeld => ?_)
       clear hK K
       refine norm_ (a' := ?_) ?_ ?_
       rotate_left
       ·show Act.put _ (some 5) _ = _
        simp only [Act.put, List.setIfInBounds_toArray, List.set_cons_zero, List.set_cons_succ, i64_w, i32_w]
        rfl
       exact norm_ (by simp only [putAll, Act.put, List.setIfInBounds_toArray, List.set_cons_zero, List.set_cons_succ]) (hCont (gb233) _ ⟨hHeld, (by (with_reducible repeat (first | refine blk_drewN ?_ _ | refine blk_drew ?_ | refine blk_alloc ?_ _)); exact BK227.out), (by (with_reducible repeat (first | refine blk_drewN ?_ _ | refine blk_drew ?_ | refine blk_alloc ?_ _)); exact BK233.out), GW233.out, GE233.out, NB227_233.out, NB233_227.out, (by repeat (first | (with_reducible first | exact HB.out | apply below_alloc | apply pw_below_drewN | apply below_drew1 | refine below_set ?_ GE227.out | refine below_set ?_ GE233.out) | exact HB.out))⟩)
      ·skip
       refine box_step ?hg (N := 5) ?hd (cs := #[.int .i64 0, .int .i64 0, .int .i64 0, .int .i64 0, .int .i64 0, .int .i64 0, .bool false, .int .i64 0]) (t := 29) ?hr ?_; (case hd => rfl); (case hg => rfl); (case hr => first | (go_simp; done) | (go_simp; rfl))
       intro gb233 hg w29 hbox hb
       have n0_ := Aside0.mk (blk_below (g := gb227) (o := .cells #[.int .i64 t219, .int .i64 t220, .int .i64 t221, .int .i64 t222, .int .i64 t223, .int .i64 t224, .bool t225, .int .i64 t226] 29 (0, 0)) (by (with_reducible repeat (first | refine blk_drewN ?_ _ | refine blk_drew ?_ | refine blk_alloc ?_ _)); exact BK227.out) hb)
       have n1_ := Aside0.mk (below_step (by repeat (first | (with_reducible first | exact HB.out | apply below_alloc | apply pw_below_drewN | apply below_drew1 | refine below_set ?_ GE227.out) | exact HB.out)) hb)
       have n2_ := Aside0.mk (hbox)
       have n3_ := Aside0.mk ((by rw [hg]; exact (below_size (by repeat (first | (with_reducible first | exact HB.out | apply below_alloc | apply pw_below_drewN | apply below_drew1 | refine below_set ?_ GE227.out) | exact HB.out))) : w.heap.size ≤ gb233))
       have n4_ := Aside0.mk ((by rw [hg]; exact (below_size (by repeat (first | (with_reducible first | exact HB.out | apply below_alloc | apply pw_below_drewN | apply below_drew1 | refine below_set ?_ GE227.out) | exact HB.out))) : w.heap.size ≤ gb233))
       have n5_ := Aside0.mk ((by rw [hg]; exact Nat.ne_of_lt (blk_lt (g := gb227) (o := .cells #[.int .i64 t219, .int .i64 t220, .int .i64 t221, .int .i64 t222, .int .i64 t223, .int .i64 t224, .bool t225, .int .i64 t226] 29 (0, 0)) (by (with_reducible repeat (first | refine blk_drewN ?_ _ | refine blk_drew ?_ | refine blk_alloc ?_ _)); exact BK227.out)) : gb227 ≠ gb233))
       have n6_ := Aside0.mk ((by rw [hg]; exact Nat.ne_of_gt (blk_lt (g := gb227) (o := .cells #[.int .i64 t219, .int .i64 t220, .int .i64 t221, .int .i64 t222, .int .i64 t223, .int .i64 t224, .bool t225, .int .i64 t226] 29 (0, 0)) (by (with_reducible repeat (first | refine blk_drewN ?_ _ | refine blk_drew ?_ | refine blk_alloc ?_ _)); exact BK227.out)) : gb233 ≠ gb227))
       clear BK227
       clear HB
       have BK227 := n0_
       have HB := n1_
       have BK233 := n2_
       have GW233 := n3_
       have GE233 := n4_
       have NB227_233 := n5_
       have NB233_227 := n6_
       clear n0_ n1_ n2_ n3_ n4_ n5_ n6_
       clear hb hbox hg
       refine hK.out _ _ ⟨(blk_cell BK227.out 0).trans rfl, (blk_cell BK227.out 1).trans rfl, (blk_cell BK227.out 2).trans rfl, (blk_cell BK227.out 3).trans rfl, (blk_cell BK227.out 4).trans rfl, (blk_cell BK227.out 5).trans rfl, (blk_cell BK227.out 6).trans rfl, (blk_cell BK227.out 7).trans rfl⟩ (fun hHeld => ?_)
       clear hK K
       refine norm_ (a' := ?_) ?_ ?_
       rotate_left
       ·show Act.put _ (some 5) _ = _
        simp only [Act.put, List.setIfInBounds_toArray, List.set_cons_zero, List.set_cons_succ, i64_w, i32_w]
        rfl
       refine one_ (i := 8) (N := some 37) #[true, true, true, true, true, true, true, true, true, true, true, true, true, false, true, false] rfl rfl (one_of HT_.out (by kernel_rfl)) (by decide) (fun K hK => ?_)
       refine goes_ Try.func16 (by kernel_rfl) rfl #[.int .i64 t219, .int .i64 t220] (by rfl) rfl rfl (by (try simp only [List.map_toArray, List.map_cons, List.map_nil]); first | done | rfl | (simp only [List.length_drop, List.length_take]; rfl)) ?_
       with_reducible refine (impl_DaysIn.calls t219 t220 t232 _ A26.out).mono ?_
       rintro e w' ⟨rfl, ⟨nd, rfl⟩⟩
       refine ⟨_, rfl, ?_⟩
       refine hK.out _ _ ⟨(blk_cell BK227.out 0).trans rfl, (blk_cell BK227.out 1).trans rfl, (blk_cell BK227.out 2).trans rfl, (blk_cell BK227.out 3).trans rfl, (blk_cell BK227.out 4).trans rfl, (blk_cell BK227.out 5).trans rfl, (blk_cell BK227.out 6).trans rfl, (blk_cell BK227.out 7).trans rfl⟩ (fun hHeld => ?_)
       clear hK K
       refine norm_ (a' := ?_) ?_ ?_
       rotate_left
       ·show Act.put _ (some 37) _ = _
        simp only [Act.put, List.setIfInBounds_toArray, List.set_cons_zero, List.set_cons_succ, i64_w, i32_w]
        rfl
       refine pure_ (i := 13) (N := some 42) (v := ?_) (a' := ?_) #[true, true, true, true, true, true, true, true, true, true, true, true, true, true, true, false] rfl rfl (any_of HT_.out (by kernel_rfl)) (fun _ _ _ h => h) (Or.inl ⟨by rfl, ?_⟩) ?_ ?_
       rotate_left
       ·intro w'
        go_simp
        with_reducible rfl
       rotate_left
       ·simp only [Act.put, List.setIfInBounds_toArray, List.set_cons_zero, List.set_cons_succ, i64_w, i32_w]
        rfl
       exact norm_ (by simp only [putAll, Act.put, List.setIfInBounds_toArray, List.set_cons_zero, List.set_cons_succ]) (hCont (gb233) _ ⟨hHeld, (by (with_reducible repeat (first | refine blk_drewN ?_ _ | refine blk_drew ?_ | refine blk_alloc ?_ _)); exact BK227.out), (by (with_reducible repeat (first | refine blk_drewN ?_ _ | refine blk_drew ?_ | refine blk_alloc ?_ _)); exact BK233.out), GW233.out, GE233.out, NB227_233.out, NB233_227.out, (by repeat (first | (with_reducible first | exact HB.out | apply below_alloc | apply pw_below_drewN | apply below_drew1 | refine below_set ?_ GE227.out | refine below_set ?_ GE233.out) | exact HB.out))⟩)
     rintro gb233 w30 ⟨hS_, h0_, h1_, h2_, h3_, h4_, h5_, h6_⟩
     have n0_ : Aside0 (w30.heap[gb227]? = some (.cells #[.int .i64 t219, .int .i64 t220, .int .i64 t221, .int .i64 t222, .int .i64 t223, .int .i64 t224, .bool t225, .int .i64 t226] 29 (0, 0))) := ⟨h0_⟩
     have n1_ : Aside0 (w30.heap[gb233]? = some (.cells #[.int .i64 0, .int .i64 0, .int .i64 0, .int .i64 0, .int .i64 0, .int .i64 0, .bool false, .int .i64 0] 29 (0, 0))) := ⟨h1_⟩
     have n2_ : Aside0 (w.heap.size ≤ gb233) := ⟨h2_⟩
     have n3_ : Aside0 (w.heap.size ≤ gb233) := ⟨h3_⟩
     have n4_ : Aside0 (gb227 ≠ gb233) := ⟨h4_⟩
     have n5_ : Aside0 (gb233 ≠ gb227) := ⟨h5_⟩
     have n6_ : Aside0 (Below w.heap.size w w30) := ⟨h6_⟩
     clear BK227
     clear HB
     clear h0_ h1_ h2_ h3_ h4_ h5_ h6_
     have BK227 := n0_
     have BK233 := n1_
     have GW233 := n2_
     have GE233 := n3_
     have NB227_233 := n4_
     have NB233_227 := n5_
     have HB := n6_
     clear n0_ n1_ n2_ n3_ n4_ n5_ n6_
     have hHeld : w30.cell? ⟨gb227, 0, none⟩ = some (.int .i64 t219) ∧ w30.cell? ⟨gb227, 1, none⟩ = some (.int .i64 t220) ∧ w30.cell? ⟨gb227, 2, none⟩ = some (.int .i64 t221) ∧ w30.cell? ⟨gb227, 3, none⟩ = some (.int .i64 t222) ∧ w30.cell? ⟨gb227, 4, none⟩ = some (.int .i64 t223) ∧ w30.cell? ⟨gb227, 5, none⟩ = some (.int .i64 t224) ∧ w30.cell? ⟨gb227, 6, none⟩ = some (.bool t225) ∧ w30.cell? ⟨gb227, 7, none⟩ = some (.int .i64 t226) := hS_
     refine norm_ (a' := ?_) ?_ ?_
     rotate_left
     ·simp only [putAll, Act.put, List.setIfInBounds_toArray, List.set_cons_zero, List.set_cons_succ]
      rfl
     refine one_ (i := 15) (N := none) #[true, true, true, true, true, true, true, true, true, true, true, true, true, true, true, true] rfl rfl (one_of HT_.out (by kernel_rfl)) (by decide) (fun K hK => ?_)
     have hs31 : w30.cell? ⟨gb233, 0, none⟩ = some (.int .i64 0) := (blk_cell BK233.out 0).trans rfl
     have hfs31 := blk_frozen BK233.out 0
     have hns31_0 := NB227_233.out
     have hms31_0 := NB233_227.out
     have hs32 : w30.cell? ⟨gb233, 1, none⟩ = some (.int .i64 0) := (blk_cell BK233.out 1).trans rfl
     have hfs32 := blk_frozen BK233.out 1
     have hns32_0 := NB227_233.out
     have hms32_0 := NB233_227.out
     have hs33 : w30.cell? ⟨gb233, 2, none⟩ = some (.int .i64 0) := (blk_cell BK233.out 2).trans rfl
     have hfs33 := blk_frozen BK233.out 2
     have hns33_0 := NB227_233.out
     have hms33_0 := NB233_227.out
     have hs34 : w30.cell? ⟨gb233, 3, none⟩ = some (.int .i64 0) := (blk_cell BK233.out 3).trans rfl
     have hfs34 := blk_frozen BK233.out 3
     have hns34_0 := NB227_233.out
     have hms34_0 := NB233_227.out
     have hs35 : w30.cell? ⟨gb233, 4, none⟩ = some (.int .i64 0) := (blk_cell BK233.out 4).trans rfl
     have hfs35 := blk_frozen BK233.out 4
     have hns35_0 := NB227_233.out
     have hms35_0 := NB233_227.out
     have hs36 : w30.cell? ⟨gb233, 5, none⟩ = some (.int .i64 0) := (blk_cell BK233.out 5).trans rfl
     have hfs36 := blk_frozen BK233.out 5
     have hns36_0 := NB227_233.out
     have hms36_0 := NB233_227.out
     have hs37 : w30.cell? ⟨gb233, 6, none⟩ = some (.bool false) := (blk_cell BK233.out 6).trans rfl
     have hfs37 := blk_frozen BK233.out 6
     have hns37_0 := NB227_233.out
     have hms37_0 := NB233_227.out
     have hs38 : w30.cell? ⟨gb233, 7, none⟩ = some (.int .i64 0) := (blk_cell BK233.out 7).trans rfl
     have hfs38 := blk_frozen BK233.out 7
     have hns38_0 := NB227_233.out
     have hms38_0 := NB233_227.out
     refine skip_ (w1 := ?_) (by rfl) rfl ?_ ?_
     rotate_left
     ·go_simp
      rfl
     refine hK.out _ _ ⟨((cell_far (p := ⟨gb233, _, none⟩) NB227_233.out _).trans (((cell_far (p := ⟨gb233, _, none⟩) NB227_233.out _).trans (((cell_far (p := ⟨gb233, _, none⟩) NB227_233.out _).trans (((cell_far (p := ⟨gb233, _, none⟩) NB227_233.out _).trans (((cell_far (p := ⟨gb233, _, none⟩) NB227_233.out _).trans (((cell_far (p := ⟨gb233, _, none⟩) NB227_233.out _).trans (((cell_far (p := ⟨gb233, _, none⟩) NB227_233.out _).trans (((cell_far (p := ⟨gb233, _, none⟩) NB227_233.out _).trans (hHeld.1)))))))))))))))), ((cell_far (p := ⟨gb233, _, none⟩) NB227_233.out _).trans (((cell_far (p := ⟨gb233, _, none⟩) NB227_233.out _).trans (((cell_far (p := ⟨gb233, _, none⟩) NB227_233.out _).trans (((cell_far (p := ⟨gb233, _, none⟩) NB227_233.out _).trans (((cell_far (p := ⟨gb233, _, none⟩) NB227_233.out _).trans (((cell_far (p := ⟨gb233, _, none⟩) NB227_233.out _).trans (((cell_far (p := ⟨gb233, _, none⟩) NB227_233.out _).trans (((cell_far (p := ⟨gb233, _, none⟩) NB227_233.out _).trans (hHeld.2.1)))))))))))))))), ((cell_far (p := ⟨gb233, _, none⟩) NB227_233.out _).trans (((cell_far (p := ⟨gb233, _, none⟩) NB227_233.out _).trans (((cell_far (p := ⟨gb233, _, none⟩) NB227_233.out _).trans (((cell_far (p := ⟨gb233, _, none⟩) NB227_233.out _).trans (((cell_far (p := ⟨gb233, _, none⟩) NB227_233.out _).trans (((cell_far (p := ⟨gb233, _, none⟩) NB227_233.out _).trans (((cell_far (p := ⟨gb233, _, none⟩) NB227_233.out _).trans (((cell_far (p := ⟨gb233, _, none⟩) NB227_233.out _).trans (hHeld.2.2.1)))))))))))))))), ((cell_far (p := ⟨gb233, _, none⟩) NB227_233.out _).trans (((cell_far (p := ⟨gb233, _, none⟩) NB227_233.out _).trans (((cell_far (p := ⟨gb233, _, none⟩) NB227_233.out _).trans (((cell_far (p := ⟨gb233, _, none⟩) NB227_233.out _).trans (((cell_far (p := ⟨gb233, _, none⟩) NB227_233.out _).trans (((cell_far (p := ⟨gb233, _, none⟩) NB227_233.out _).trans (((cell_far (p := ⟨gb233, _, none⟩) NB227_233.out _).trans (((cell_far (p := ⟨gb233, _, none⟩) NB227_233.out _).trans (hHeld.2.2.2.1)))))))))))))))), ((cell_far (p := ⟨gb233, _, none⟩) NB227_233.out _).trans (((cell_far (p := ⟨gb233, _, none⟩) NB227_233.out _).trans (((cell_far (p := ⟨gb233, _, none⟩) NB227_233.out _).trans (((cell_far (p := ⟨gb233, _, none⟩) NB227_233.out _).trans (((cell_far (p := ⟨gb233, _, none⟩) NB227_233.out _).trans (((cell_far (p := ⟨gb233, _, none⟩) NB227_233.out _).trans (((cell_far (p := ⟨gb233, _, none⟩) NB227_233.out _).trans (((cell_far (p := ⟨gb233, _, none⟩) NB227_233.out _).trans (hHeld.2.2.2.2.1)))))))))))))))), ((cell_far (p := ⟨gb233, _, none⟩) NB227_233.out _).trans (((cell_far (p := ⟨gb233, _, none⟩) NB227_233.out _).trans (((cell_far (p := ⟨gb233, _, none⟩) NB227_233.out _).trans (((cell_far (p := ⟨gb233, _, none⟩) NB227_233.out _).trans (((cell_far (p := ⟨gb233, _, none⟩) NB227_233.out _).trans (((cell_far (p := ⟨gb233, _, none⟩) NB227_233.out _).trans (((cell_far (p := ⟨gb233, _, none⟩) NB227_233.out _).trans (((cell_far (p := ⟨gb233, _, none⟩) NB227_233.out _).trans (hHeld.2.2.2.2.2.1)))))))))))))))), ((cell_far (p := ⟨gb233, _, none⟩) NB227_233.out _).trans (((cell_far (p := ⟨gb233, _, none⟩) NB227_233.out _).trans (((cell_far (p := ⟨gb233, _, none⟩) NB227_233.out _).trans (((cell_far (p := ⟨gb233, _, none⟩) NB227_233.out _).trans (((cell_far (p := ⟨gb233, _, none⟩) NB227_233.out _).trans (((cell_far (p := ⟨gb233, _, none⟩) NB227_233.out _).trans (((cell_far (p := ⟨gb233, _, none⟩) NB227_233.out _).trans (((cell_far (p := ⟨gb233, _, none⟩) NB227_233.out _).trans (hHeld.2.2.2.2.2.2.1)))))))))))))))), ((cell_far (p := ⟨gb233, _, none⟩) NB227_233.out _).trans (((cell_far (p := ⟨gb233, _, none⟩) NB227_233.out _).trans (((cell_far (p := ⟨gb233, _, none⟩) NB227_233.out _).trans (((cell_far (p := ⟨gb233, _, none⟩) NB227_233.out _).trans (((cell_far (p := ⟨gb233, _, none⟩) NB227_233.out _).trans (((cell_far (p := ⟨gb233, _, none⟩) NB227_233.out _).trans (((cell_far (p := ⟨gb233, _, none⟩) NB227_233.out _).trans (((cell_far (p := ⟨gb233, _, none⟩) NB227_233.out _).trans (hHeld.2.2.2.2.2.2.2))))))))))))))))⟩ (fun hHeld => ?_)
     clear hK K
     refine done_ (done_of HT_.out (by kernel_rfl)) ?_
     have n0_ : Aside0 (((((((((w30.setCell ⟨gb233, 0, none⟩ (.int .i64 t219)).setCell ⟨gb233, 1, none⟩ (.int .i64 t220)).setCell ⟨gb233, 2, none⟩ (.int .i64 t232)).setCell ⟨gb233, 3, none⟩ (.int .i64 23)).setCell ⟨gb233, 4, none⟩ (.int .i64 59)).setCell ⟨gb233, 5, none⟩ (.int .i64 59)).setCell ⟨gb233, 6, none⟩ (.bool t225)).setCell ⟨gb233, 7, none⟩ (.int .i64 t226)).heap[gb227]? = some (.cells #[.int .i64 t219, .int .i64 t220, .int .i64 t221, .int .i64 t222, .int .i64 t223, .int .i64 t224, .bool t225, .int .i64 t226] 29 (0, 0))) := ⟨by (with_reducible repeat (first | refine blk_drewN ?_ _ | refine blk_drew ?_ | refine blk_alloc ?_ _)); refine blk_far ?_ NB227_233.out _; (with_reducible repeat (first | refine blk_drewN ?_ _ | refine blk_drew ?_ | refine blk_alloc ?_ _)); refine blk_far ?_ NB227_233.out _; (with_reducible repeat (first | refine blk_drewN ?_ _ | refine blk_drew ?_ | refine blk_alloc ?_ _)); refine blk_far ?_ NB227_233.out _; (with_reducible repeat (first | refine blk_drewN ?_ _ | refine blk_drew ?_ | refine blk_alloc ?_ _)); refine blk_far ?_ NB227_233.out _; (with_reducible repeat (first | refine blk_drewN ?_ _ | refine blk_drew ?_ | refine blk_alloc ?_ _)); refine blk_far ?_ NB227_233.out _; (with_reducible repeat (first | refine blk_drewN ?_ _ | refine blk_drew ?_ | refine blk_alloc ?_ _)); refine blk_far ?_ NB227_233.out _; (with_reducible repeat (first | refine blk_drewN ?_ _ | refine blk_drew ?_ | refine blk_alloc ?_ _)); refine blk_far ?_ NB227_233.out _; (with_reducible repeat (first | refine blk_drewN ?_ _ | refine blk_drew ?_ | refine blk_alloc ?_ _)); refine blk_far ?_ NB227_233.out _; (with_reducible repeat (first | refine blk_drewN ?_ _ | refine blk_drew ?_ | refine blk_alloc ?_ _)); exact BK227.out⟩
     have n1_ : Aside0 (((((((((w30.setCell ⟨gb233, 0, none⟩ (.int .i64 t219)).setCell ⟨gb233, 1, none⟩ (.int .i64 t220)).setCell ⟨gb233, 2, none⟩ (.int .i64 t232)).setCell ⟨gb233, 3, none⟩ (.int .i64 23)).setCell ⟨gb233, 4, none⟩ (.int .i64 59)).setCell ⟨gb233, 5, none⟩ (.int .i64 59)).setCell ⟨gb233, 6, none⟩ (.bool t225)).setCell ⟨gb233, 7, none⟩ (.int .i64 t226)).heap[gb233]? = some (.cells #[.int .i64 t219, .int .i64 t220, .int .i64 t232, .int .i64 23, .int .i64 59, .int .i64 59, .bool t225, .int .i64 t226] 29 (0, 0))) := ⟨by (with_reducible repeat (first | refine blk_drewN ?_ _ | refine blk_drew ?_ | refine blk_alloc ?_ _)); refine blk_put (cs := #[.int .i64 t219, .int .i64 t220, .int .i64 t232, .int .i64 23, .int .i64 59, .int .i64 59, .bool t225, .int .i64 0]) ?_ 7 _ rfl; (with_reducible repeat (first | refine blk_drewN ?_ _ | refine blk_drew ?_ | refine blk_alloc ?_ _)); refine blk_put (cs := #[.int .i64 t219, .int .i64 t220, .int .i64 t232, .int .i64 23, .int .i64 59, .int .i64 59, .bool false, .int .i64 0]) ?_ 6 _ rfl; (with_reducible repeat (first | refine blk_drewN ?_ _ | refine blk_drew ?_ | refine blk_alloc ?_ _)); refine blk_put (cs := #[.int .i64 t219, .int .i64 t220, .int .i64 t232, .int .i64 23, .int .i64 59, .int .i64 0, .bool false, .int .i64 0]) ?_ 5 _ rfl; (with_reducible repeat (first | refine blk_drewN ?_ _ | refine blk_drew ?_ | refine blk_alloc ?_ _)); refine blk_put (cs := #[.int .i64 t219, .int .i64 t220, .int .i64 t232, .int .i64 23, .int .i64 0, .int .i64 0, .bool false, .int .i64 0]) ?_ 4 _ rfl; (with_reducible repeat (first | refine blk_drewN ?_ _ | refine blk_drew ?_ | refine blk_alloc ?_ _)); refine blk_put (cs := #[.int .i64 t219, .int .i64 t220, .int .i64 t232, .int .i64 0, .int .i64 0, .int .i64 0, .bool false, .int .i64 0]) ?_ 3 _ rfl; (with_reducible repeat (first | refine blk_drewN ?_ _ | refine blk_drew ?_ | refine blk_alloc ?_ _)); refine blk_put (cs := #[.int .i64 t219, .int .i64 t220, .int .i64 0, .int .i64 0, .int .i64 0, .int .i64 0, .bool false, .int .i64 0]) ?_ 2 _ rfl; (with_reducible repeat (first | refine blk_drewN ?_ _ | refine blk_drew ?_ | refine blk_alloc ?_ _)); refine blk_put (cs := #[.int .i64 t219, .int .i64 0, .int .i64 0, .int .i64 0, .int .i64 0, .int .i64 0, .bool false, .int .i64 0]) ?_ 1 _ rfl; (with_reducible repeat (first | refine blk_drewN ?_ _ | refine blk_drew ?_ | refine blk_alloc ?_ _)); refine blk_put (cs := #[.int .i64 0, .int .i64 0, .int .i64 0, .int .i64 0, .int .i64 0, .int .i64 0, .bool false, .int .i64 0]) ?_ 0 _ rfl; (with_reducible repeat (first | refine blk_drewN ?_ _ | refine blk_drew ?_ | refine blk_alloc ?_ _)); exact BK233.out⟩
     have n2_ : Aside0 (Below w.heap.size w ((((((((w30.setCell ⟨gb233, 0, none⟩ (.int .i64 t219)).setCell ⟨gb233, 1, none⟩ (.int .i64 t220)).setCell ⟨gb233, 2, none⟩ (.int .i64 t232)).setCell ⟨gb233, 3, none⟩ (.int .i64 23)).setCell ⟨gb233, 4, none⟩ (.int .i64 59)).setCell ⟨gb233, 5, none⟩ (.int .i64 59)).setCell ⟨gb233, 6, none⟩ (.bool t225)).setCell ⟨gb233, 7, none⟩ (.int .i64 t226))) := ⟨by repeat (first | (with_reducible first | exact HB.out | apply below_alloc | apply pw_below_drewN | apply below_drew1 | refine below_set ?_ GE227.out | refine below_set ?_ GE233.out) | exact HB.out)⟩
     (try clear BK227)
     (try clear BK233)
     (try clear HB)
     generalize ((((((((w30.setCell ⟨gb233, 0, none⟩ (.int .i64 t219)).setCell ⟨gb233, 1, none⟩ (.int .i64 t220)).setCell ⟨gb233, 2, none⟩ (.int .i64 t232)).setCell ⟨gb233, 3, none⟩ (.int .i64 23)).setCell ⟨gb233, 4, none⟩ (.int .i64 59)).setCell ⟨gb233, 5, none⟩ (.int .i64 59)).setCell ⟨gb233, 6, none⟩ (.bool t225)).setCell ⟨gb233, 7, none⟩ (.int .i64 t226)) = w39 at n0_ n1_ n2_ ⊢
     have BK227 := n0_
     have BK233 := n1_
     have HB := n2_
     clear n0_ n1_ n2_
     have hnb40 := NB227_233.out
     have hnc40 := NB233_227.out
     have hcz41_0 : w39.cell? ⟨gb227, 0, none⟩ = some (.int .i64 t219) := (blk_cell BK227.out 0).trans rfl
     have hcz41_1 : w39.cell? ⟨gb227, 1, none⟩ = some (.int .i64 t220) := (blk_cell BK227.out 1).trans rfl
     have hcz41_2 : w39.cell? ⟨gb227, 2, none⟩ = some (.int .i64 t221) := (blk_cell BK227.out 2).trans rfl
     have hcz41_3 : w39.cell? ⟨gb227, 3, none⟩ = some (.int .i64 t222) := (blk_cell BK227.out 3).trans rfl
     have hcz41_4 : w39.cell? ⟨gb227, 4, none⟩ = some (.int .i64 t223) := (blk_cell BK227.out 4).trans rfl
     have hcz41_5 : w39.cell? ⟨gb227, 5, none⟩ = some (.int .i64 t224) := (blk_cell BK227.out 5).trans rfl
     have hcz41_6 : w39.cell? ⟨gb227, 6, none⟩ = some (.bool t225) := (blk_cell BK227.out 6).trans rfl
     have hcz41_7 : w39.cell? ⟨gb227, 7, none⟩ = some (.int .i64 t226) := (blk_cell BK227.out 7).trans rfl
     have hfz41_0 := blk_frozen BK227.out 0
     have hfz41_1 := blk_frozen BK227.out 1
     have hfz41_2 := blk_frozen BK227.out 2
     have hfz41_3 := blk_frozen BK227.out 3
     have hfz41_4 := blk_frozen BK227.out 4
     have hfz41_5 := blk_frozen BK227.out 5
     have hfz41_6 := blk_frozen BK227.out 6
     have hfz41_7 := blk_frozen BK227.out 7
     go_upto_if 55 with (first | ((with_reducible refine gate_dst (N := 6) rfl ?_); refine box_event ?hg (N := 6) ?hd (cs := #[.int .i64 0, .int .i64 0, .int .i64 0, .int .i64 0, .int .i64 0, .int .i64 0, .bool false, .int .i64 0]) (t := 29) ?hr ?_; (case hd => rfl); (case hg => rfl); (case hr => first | (go_simp; done) | (go_simp; rfl)); intro gb234 hg w42 hbox hb; have n0_ := Aside0.mk (blk_below (g := gb227) (o := .cells #[.int .i64 t219, .int .i64 t220, .int .i64 t221, .int .i64 t222, .int .i64 t223, .int .i64 t224, .bool t225, .int .i64 t226] 29 (0, 0)) (by (with_reducible repeat (first | refine blk_drewN ?_ _ | refine blk_drew ?_ | refine blk_alloc ?_ _)); exact BK227.out) hb); have n1_ := Aside0.mk (blk_below (g := gb233) (o := .cells #[.int .i64 t219, .int .i64 t220, .int .i64 t232, .int .i64 23, .int .i64 59, .int .i64 59, .bool t225, .int .i64 t226] 29 (0, 0)) (by (with_reducible repeat (first | refine blk_drewN ?_ _ | refine blk_drew ?_ | refine blk_alloc ?_ _)); exact BK233.out) hb); have n2_ := Aside0.mk (below_step (by repeat (first | (with_reducible first | exact HB.out | apply below_alloc | apply pw_below_drewN | apply below_drew1 | refine below_set ?_ GE227.out | refine below_set ?_ GE233.out) | exact HB.out)) hb); have n3_ := Aside0.mk (hbox); have n4_ := Aside0.mk ((by rw [hg]; exact (below_size (by repeat (first | (with_reducible first | exact HB.out | apply below_alloc | apply pw_below_drewN | apply below_drew1 | refine below_set ?_ GE227.out | refine below_set ?_ GE233.out) | exact HB.out))) : w.heap.size ≤ gb234)); have n5_ := Aside0.mk ((by rw [hg]; exact (below_size (by repeat (first | (with_reducible first | exact HB.out | apply below_alloc | apply pw_below_drewN | apply below_drew1 | refine below_set ?_ GE227.out | refine below_set ?_ GE233.out) | exact HB.out))) : w.heap.size ≤ gb234)); have n6_ := Aside0.mk ((by rw [hg]; exact Nat.ne_of_lt (blk_lt (g := gb227) (o := .cells #[.int .i64 t219, .int .i64 t220, .int .i64 t221, .int .i64 t222, .int .i64 t223, .int .i64 t224, .bool t225, .int .i64 t226] 29 (0, 0)) (by (with_reducible repeat (first | refine blk_drewN ?_ _ | refine blk_drew ?_ | refine blk_alloc ?_ _)); exact BK227.out)) : gb227 ≠ gb234)); have n7_ := Aside0.mk ((by rw [hg]; exact Nat.ne_of_gt (blk_lt (g := gb227) (o := .cells #[.int .i64 t219, .int .i64 t220, .int .i64 t221, .int .i64 t222, .int .i64 t223, .int .i64 t224, .bool t225, .int .i64 t226] 29 (0, 0)) (by (with_reducible repeat (first | refine blk_drewN ?_ _ | refine blk_drew ?_ | refine blk_alloc ?_ _)); exact BK227.out)) : gb234 ≠ gb227)); have n8_ := Aside0.mk ((by rw [hg]; exact Nat.ne_of_lt (blk_lt (g := gb233) (o := .cells #[.int .i64 t219, .int .i64 t220, .int .i64 t232, .int .i64 23, .int .i64 59, .int .i64 59, .bool t225, .int .i64 t226] 29 (0, 0)) (by (with_reducible repeat (first | refine blk_drewN ?_ _ | refine blk_drew ?_ | refine blk_alloc ?_ _)); exact BK233.out)) : gb233 ≠ gb234)); have n9_ := Aside0.mk ((by rw [hg]; exact Nat.ne_of_gt (blk_lt (g := gb233) (o := .cells #[.int .i64 t219, .int .i64 t220, .int .i64 t232, .int .i64 23, .int .i64 59, .int .i64 59, .bool t225, .int .i64 t226] 29 (0, 0)) (by (with_reducible repeat (first | refine blk_drewN ?_ _ | refine blk_drew ?_ | refine blk_alloc ?_ _)); exact BK233.out)) : gb234 ≠ gb233)); clear BK227; clear BK233; clear HB; have BK227 := n0_; have BK233 := n1_; have HB := n2_; have BK234 := n3_; have GW234 := n4_; have GE234 := n5_; have NB227_234 := n6_; have NB234_227 := n7_; have NB233_234 := n8_; have NB234_233 := n9_; clear n0_ n1_ n2_ n3_ n4_ n5_ n6_ n7_ n8_ n9_; clear hb hbox hg; have hnb43 := NB234_227.out; have hnc43 := NB227_234.out; have hnb44 := NB234_233.out; have hnc44 := NB233_234.out; have hcz45_0 : w42.cell? ⟨gb234, 0, none⟩ = some (.int .i64 0) := (blk_cell BK234.out 0).trans rfl; have hcz45_1 : w42.cell? ⟨gb234, 1, none⟩ = some (.int .i64 0) := (blk_cell BK234.out 1).trans rfl; have hcz45_2 : w42.cell? ⟨gb234, 2, none⟩ = some (.int .i64 0) := (blk_cell BK234.out 2).trans rfl; have hcz45_3 : w42.cell? ⟨gb234, 3, none⟩ = some (.int .i64 0) := (blk_cell BK234.out 3).trans rfl; have hcz45_4 : w42.cell? ⟨gb234, 4, none⟩ = some (.int .i64 0) := (blk_cell BK234.out 4).trans rfl; have hcz45_5 : w42.cell? ⟨gb234, 5, none⟩ = some (.int .i64 0) := (blk_cell BK234.out 5).trans rfl; have hcz45_6 : w42.cell? ⟨gb234, 6, none⟩ = some (.bool false) := (blk_cell BK234.out 6).trans rfl; have hcz45_7 : w42.cell? ⟨gb234, 7, none⟩ = some (.int .i64 0) := (blk_cell BK234.out 7).trans rfl; have hfz45_0 := blk_frozen BK234.out 0; have hfz45_1 := blk_frozen BK234.out 1; have hfz45_2 := blk_frozen BK234.out 2; have hfz45_3 := blk_frozen BK234.out 3; have hfz45_4 := blk_frozen BK234.out 4; have hfz45_5 := blk_frozen BK234.out 5; have hfz45_6 := blk_frozen BK234.out 6; have hfz45_7 := blk_frozen BK234.out 7) | ((with_reducible refine gate_store (t := 29) (p := 6) rfl ?_); refine store_event (t := 29) (p := 6) (v := ?vo_w46) (w1 := ((((((((w42.setCell ⟨gb234, 0, none⟩ (.int .i64 t219)).setCell ⟨gb234, 1, none⟩ (.int .i64 (wrap64 (t220 + 1)))).setCell ⟨gb234, 2, none⟩ (.int .i64 1)).setCell ⟨gb234, 3, none⟩ (.int .i64 0)).setCell ⟨gb234, 4, none⟩ (.int .i64 0)).setCell ⟨gb234, 5, none⟩ (.int .i64 0)).setCell ⟨gb234, 6, none⟩ (.bool t225)).setCell ⟨gb234, 7, none⟩ (.int .i64 t226))) ?hg ?ho ?hn ?hr ?_; (case ho => rfl); (case hg => rfl); (case hn => rfl); (case hr => first | (go_simp; done) | (go_simp; rfl)); intro w46 hw; have n0_ : Aside0 (w46.heap[gb227]? = some (.cells #[.int .i64 t219, .int .i64 t220, .int .i64 t221, .int .i64 t222, .int .i64 t223, .int .i64 t224, .bool t225, .int .i64 t226] 29 (0, 0))) := ⟨(by rw [hw]; exact (by (with_reducible repeat (first | refine blk_drewN ?_ _ | refine blk_drew ?_ | refine blk_alloc ?_ _)); refine blk_far ?_ NB227_234.out _; (with_reducible repeat (first | refine blk_drewN ?_ _ | refine blk_drew ?_ | refine blk_alloc ?_ _)); refine blk_far ?_ NB227_234.out _; (with_reducible repeat (first | refine blk_drewN ?_ _ | refine blk_drew ?_ | refine blk_alloc ?_ _)); refine blk_far ?_ NB227_234.out _; (with_reducible repeat (first | refine blk_drewN ?_ _ | refine blk_drew ?_ | refine blk_alloc ?_ _)); refine blk_far ?_ NB227_234.out _; (with_reducible repeat (first | refine blk_drewN ?_ _ | refine blk_drew ?_ | refine blk_alloc ?_ _)); refine blk_far ?_ NB227_234.out _; (with_reducible repeat (first | refine blk_drewN ?_ _ | refine blk_drew ?_ | refine blk_alloc ?_ _)); refine blk_far ?_ NB227_234.out _; (with_reducible repeat (first | refine blk_drewN ?_ _ | refine blk_drew ?_ | refine blk_alloc ?_ _)); refine blk_far ?_ NB227_234.out _; (with_reducible repeat (first | refine blk_drewN ?_ _ | refine blk_drew ?_ | refine blk_alloc ?_ _)); refine blk_far ?_ NB227_234.out _; (with_reducible repeat (first | refine blk_drewN ?_ _ | refine blk_drew ?_ | refine blk_alloc ?_ _)); exact BK227.out))⟩; have n1_ : Aside0 (w46.heap[gb233]? = some (.cells #[.int .i64 t219, .int .i64 t220, .int .i64 t232, .int .i64 23, .int .i64 59, .int .i64 59, .bool t225, .int .i64 t226] 29 (0, 0))) := ⟨(by rw [hw]; exact (by (with_reducible repeat (first | refine blk_drewN ?_ _ | refine blk_drew ?_ | refine blk_alloc ?_ _)); refine blk_far ?_ NB233_234.out _; (with_reducible repeat (first | refine blk_drewN ?_ _ | refine blk_drew ?_ | refine blk_alloc ?_ _)); refine blk_far ?_ NB233_234.out _; (with_reducible repeat (first | refine blk_drewN ?_ _ | refine blk_drew ?_ | refine blk_alloc ?_ _)); refine blk_far ?_ NB233_234.out _; (with_reducible repeat (first | refine blk_drewN ?_ _ | refine blk_drew ?_ | refine blk_alloc ?_ _)); refine blk_far ?_ NB233_234.out _; (with_reducible repeat (first | refine blk_drewN ?_ _ | refine blk_drew ?_ | refine blk_alloc ?_ _)); refine blk_far ?_ NB233_234.out _; (with_reducible repeat (first | refine blk_drewN ?_ _ | refine blk_drew ?_ | refine blk_alloc ?_ _)); refine blk_far ?_ NB233_234.out _; (with_reducible repeat (first | refine blk_drewN ?_ _ | refine blk_drew ?_ | refine blk_alloc ?_ _)); refine blk_far ?_ NB233_234.out _; (with_reducible repeat (first | refine blk_drewN ?_ _ | refine blk_drew ?_ | refine blk_alloc ?_ _)); refine blk_far ?_ NB233_234.out _; (with_reducible repeat (first | refine blk_drewN ?_ _ | refine blk_drew ?_ | refine blk_alloc ?_ _)); exact BK233.out))⟩; have n2_ : Aside0 (w46.heap[gb234]? = some (.cells #[.int .i64 t219, .int .i64 (wrap64 (t220 + 1)), .int .i64 1, .int .i64 0, .int .i64 0, .int .i64 0, .bool t225, .int .i64 t226] 29 (0, 0))) := ⟨(by rw [hw]; exact (by (with_reducible repeat (first | refine blk_drewN ?_ _ | refine blk_drew ?_ | refine blk_alloc ?_ _)); refine blk_put (cs := #[.int .i64 t219, .int .i64 (wrap64 (t220 + 1)), .int .i64 1, .int .i64 0, .int .i64 0, .int .i64 0, .bool t225, .int .i64 0]) ?_ 7 _ rfl; (with_reducible repeat (first | refine blk_drewN ?_ _ | refine blk_drew ?_ | refine blk_alloc ?_ _)); refine blk_put (cs := #[.int .i64 t219, .int .i64 (wrap64 (t220 + 1)), .int .i64 1, .int .i64 0, .int .i64 0, .int .i64 0, .bool false, .int .i64 0]) ?_ 6 _ rfl; (with_reducible repeat (first | refine blk_drewN ?_ _ | refine blk_drew ?_ | refine blk_alloc ?_ _)); refine blk_put (cs := #[.int .i64 t219, .int .i64 (wrap64 (t220 + 1)), .int .i64 1, .int .i64 0, .int .i64 0, .int .i64 0, .bool false, .int .i64 0]) ?_ 5 _ rfl; (with_reducible repeat (first | refine blk_drewN ?_ _ | refine blk_drew ?_ | refine blk_alloc ?_ _)); refine blk_put (cs := #[.int .i64 t219, .int .i64 (wrap64 (t220 + 1)), .int .i64 1, .int .i64 0, .int .i64 0, .int .i64 0, .bool false, .int .i64 0]) ?_ 4 _ rfl; (with_reducible repeat (first | refine blk_drewN ?_ _ | refine blk_drew ?_ | refine blk_alloc ?_ _)); refine blk_put (cs := #[.int .i64 t219, .int .i64 (wrap64 (t220 + 1)), .int .i64 1, .int .i64 0, .int .i64 0, .int .i64 0, .bool false, .int .i64 0]) ?_ 3 _ rfl; (with_reducible repeat (first | refine blk_drewN ?_ _ | refine blk_drew ?_ | refine blk_alloc ?_ _)); refine blk_put (cs := #[.int .i64 t219, .int .i64 (wrap64 (t220 + 1)), .int .i64 0, .int .i64 0, .int .i64 0, .int .i64 0, .bool false, .int .i64 0]) ?_ 2 _ rfl; (with_reducible repeat (first | refine blk_drewN ?_ _ | refine blk_drew ?_ | refine blk_alloc ?_ _)); refine blk_put (cs := #[.int .i64 t219, .int .i64 0, .int .i64 0, .int .i64 0, .int .i64 0, .int .i64 0, .bool false, .int .i64 0]) ?_ 1 _ rfl; (with_reducible repeat (first | refine blk_drewN ?_ _ | refine blk_drew ?_ | refine blk_alloc ?_ _)); refine blk_put (cs := #[.int .i64 0, .int .i64 0, .int .i64 0, .int .i64 0, .int .i64 0, .int .i64 0, .bool false, .int .i64 0]) ?_ 0 _ rfl; (with_reducible repeat (first | refine blk_drewN ?_ _ | refine blk_drew ?_ | refine blk_alloc ?_ _)); exact BK234.out))⟩; have n3_ : Aside0 (Below w.heap.size w w46) := ⟨(by rw [hw]; exact (by repeat (first | (with_reducible first | exact HB.out | apply below_alloc | apply pw_below_drewN | apply below_drew1 | refine below_set ?_ GE227.out | refine below_set ?_ GE233.out | refine below_set ?_ GE234.out) | exact HB.out)))⟩; clear hw; clear BK227; clear BK233; clear BK234; clear HB; have BK227 := n0_; have BK233 := n1_; have BK234 := n2_; have HB := n3_; clear n0_ n1_ n2_ n3_; have hcz47_0 : w46.cell? ⟨gb227, 0, none⟩ = some (.int .i64 t219) := (blk_cell BK227.out 0).trans rfl; have hcz47_1 : w46.cell? ⟨gb227, 1, none⟩ = some (.int .i64 t220) := (blk_cell BK227.out 1).trans rfl; have hcz47_2 : w46.cell? ⟨gb227, 2, none⟩ = some (.int .i64 t221) := (blk_cell BK227.out 2).trans rfl; have hcz47_3 : w46.cell? ⟨gb227, 3, none⟩ = some (.int .i64 t222) := (blk_cell BK227.out 3).trans rfl; have hcz47_4 : w46.cell? ⟨gb227, 4, none⟩ = some (.int .i64 t223) := (blk_cell BK227.out 4).trans rfl; have hcz47_5 : w46.cell? ⟨gb227, 5, none⟩ = some (.int .i64 t224) := (blk_cell BK227.out 5).trans rfl; have hcz47_6 : w46.cell? ⟨gb227, 6, none⟩ = some (.bool t225) := (blk_cell BK227.out 6).trans rfl; have hcz47_7 : w46.cell? ⟨gb227, 7, none⟩ = some (.int .i64 t226) := (blk_cell BK227.out 7).trans rfl; have hfz47_0 := blk_frozen BK227.out 0; have hfz47_1 := blk_frozen BK227.out 1; have hfz47_2 := blk_frozen BK227.out 2; have hfz47_3 := blk_frozen BK227.out 3; have hfz47_4 := blk_frozen BK227.out 4; have hfz47_5 := blk_frozen BK227.out 5; have hfz47_6 := blk_frozen BK227.out 6; have hfz47_7 := blk_frozen BK227.out 7))
     (try simp only [Act.put, List.setIfInBounds_toArray, List.set_cons_zero, List.set_cons_succ])
     go_cut [] (fun wc => ∃ (kq : Nat) (x235000_26 : Int) (x235001_26 : Int), Aside0 (laws_FnNextDay.j1 kq t219 t220 t221 t222 t223 t224 t225 t226 t219 t220 t232 23 59 59 t225 t226 x235000_26 x235001_26 1 0 0 0 t225 t226 = some r) ∧ Aside0 (kq ≤ kj5) ∧ Aside0 (wc.heap[gb227]? = some (.cells #[.int .i64 t219, .int .i64 t220, .int .i64 t221, .int .i64 t222, .int .i64 t223, .int .i64 t224, .bool t225, .int .i64 t226] 29 (0, 0))) ∧ Aside0 (wc.heap[gb233]? = some (.cells #[.int .i64 t219, .int .i64 t220, .int .i64 t232, .int .i64 23, .int .i64 59, .int .i64 59, .bool t225, .int .i64 t226] 29 (0, 0))) ∧ Aside0 (wc.heap[gb234]? = some (.cells #[.int .i64 x235000_26, .int .i64 x235001_26, .int .i64 1, .int .i64 0, .int .i64 0, .int .i64 0, .bool t225, .int .i64 t226] 29 (0, 0))) ∧ Aside0 (Below w.heap.size w wc))
     case first =>
      have H := HC27.out
      clear HC27
      by_cases c48 : t220 = 12
      ·rw [if_pos c48] at H
       have c48b0 : (t220 == 12) = true := beq_iff_eq.mpr c48
       have c48b1 : (t220 != 12) = false := bne_eq_false_iff_eq.mpr c48
       clear c48
       (first | rw [c48b0] | (simp only [i64_w, i32_w]; rw [c48b0]) | skip)
       have H' := Aside0.mk H
       clear H
       have hnb49 := NB227_233.out
       have hnc49 := NB233_227.out
       have hnb50 := NB227_234.out
       have hnc50 := NB234_227.out
       have hcz51_0 : w46.cell? ⟨gb227, 0, none⟩ = some (.int .i64 t219) := (blk_cell BK227.out 0).trans rfl
       have hcz51_1 : w46.cell? ⟨gb227, 1, none⟩ = some (.int .i64 t220) := (blk_cell BK227.out 1).trans rfl
       have hcz51_2 : w46.cell? ⟨gb227, 2, none⟩ = some (.int .i64 t221) := (blk_cell BK227.out 2).trans rfl
       have hcz51_3 : w46.cell? ⟨gb227, 3, none⟩ = some (.int .i64 t222) := (blk_cell BK227.out 3).trans rfl
       have hcz51_4 : w46.cell? ⟨gb227, 4, none⟩ = some (.int .i64 t223) := (blk_cell BK227.out 4).trans rfl
       have hcz51_5 : w46.cell? ⟨gb227, 5, none⟩ = some (.int .i64 t224) := (blk_cell BK227.out 5).trans rfl
       have hcz51_6 : w46.cell? ⟨gb227, 6, none⟩ = some (.bool t225) := (blk_cell BK227.out 6).trans rfl
       have hcz51_7 : w46.cell? ⟨gb227, 7, none⟩ = some (.int .i64 t226) := (blk_cell BK227.out 7).trans rfl
       have hfz51_0 := blk_frozen BK227.out 0
       have hfz51_1 := blk_frozen BK227.out 1
       have hfz51_2 := blk_frozen BK227.out 2
       have hfz51_3 := blk_frozen BK227.out 3
       have hfz51_4 := blk_frozen BK227.out 4
       have hfz51_5 := blk_frozen BK227.out 5
       have hfz51_6 := blk_frozen BK227.out 6
       have hfz51_7 := blk_frozen BK227.out 7
       have hnb52 := NB234_233.out
       have hnc52 := NB233_234.out
       have hcz53_0 : w46.cell? ⟨gb234, 0, none⟩ = some (.int .i64 t219) := (blk_cell BK234.out 0).trans rfl
       have hcz53_1 : w46.cell? ⟨gb234, 1, none⟩ = some (.int .i64 (wrap64 (t220 + 1))) := (blk_cell BK234.out 1).trans rfl
       have hcz53_2 : w46.cell? ⟨gb234, 2, none⟩ = some (.int .i64 1) := (blk_cell BK234.out 2).trans rfl
       have hcz53_3 : w46.cell? ⟨gb234, 3, none⟩ = some (.int .i64 0) := (blk_cell BK234.out 3).trans rfl
       have hcz53_4 : w46.cell? ⟨gb234, 4, none⟩ = some (.int .i64 0) := (blk_cell BK234.out 4).trans rfl
       have hcz53_5 : w46.cell? ⟨gb234, 5, none⟩ = some (.int .i64 0) := (blk_cell BK234.out 5).trans rfl
       have hcz53_6 : w46.cell? ⟨gb234, 6, none⟩ = some (.bool t225) := (blk_cell BK234.out 6).trans rfl
       have hcz53_7 : w46.cell? ⟨gb234, 7, none⟩ = some (.int .i64 t226) := (blk_cell BK234.out 7).trans rfl
       have hfz53_0 := blk_frozen BK234.out 0
       have hfz53_1 := blk_frozen BK234.out 1
       have hfz53_2 := blk_frozen BK234.out 2
       have hfz53_3 := blk_frozen BK234.out 3
       have hfz53_4 := blk_frozen BK234.out 4
       have hfz53_5 := blk_frozen BK234.out 5
       have hfz53_6 := blk_frozen BK234.out 6
       have hfz53_7 := blk_frozen BK234.out 7
       go_wp2
       go_meet
       case rel => exact ⟨_, (wrap64 (t219 + 1)), (1), H', ⟨by have := HJ5.out; first | omega | exact Nat.le_refl _⟩, ⟨by (with_reducible repeat (first | refine blk_drewN ?_ _ | refine blk_drew ?_ | refine blk_alloc ?_ _)); refine blk_far ?_ NB227_234.out _; (with_reducible repeat (first | refine blk_drewN ?_ _ | refine blk_drew ?_ | refine blk_alloc ?_ _)); refine blk_far ?_ NB227_234.out _; (with_reducible repeat (first | refine blk_drewN ?_ _ | refine blk_drew ?_ | refine blk_alloc ?_ _)); exact BK227.out⟩, ⟨by (with_reducible repeat (first | refine blk_drewN ?_ _ | refine blk_drew ?_ | refine blk_alloc ?_ _)); refine blk_far ?_ NB233_234.out _; (with_reducible repeat (first | refine blk_drewN ?_ _ | refine blk_drew ?_ | refine blk_alloc ?_ _)); refine blk_far ?_ NB233_234.out _; (with_reducible repeat (first | refine blk_drewN ?_ _ | refine blk_drew ?_ | refine blk_alloc ?_ _)); exact BK233.out⟩, ⟨by (with_reducible repeat (first | refine blk_drewN ?_ _ | refine blk_drew ?_ | refine blk_alloc ?_ _)); refine blk_put (cs := #[.int .i64 (wrap64 (t219 + 1)), .int .i64 (wrap64 (t220 + 1)), .int .i64 1, .int .i64 0, .int .i64 0, .int .i64 0, .bool t225, .int .i64 t226]) ?_ 1 _ rfl; (with_reducible repeat (first | refine blk_drewN ?_ _ | refine blk_drew ?_ | refine blk_alloc ?_ _)); refine blk_put (cs := #[.int .i64 t219, .int .i64 (wrap64 (t220 + 1)), .int .i64 1, .int .i64 0, .int .i64 0, .int .i64 0, .bool t225, .int .i64 t226]) ?_ 0 _ rfl; (with_reducible repeat (first | refine blk_drewN ?_ _ | refine blk_drew ?_ | refine blk_alloc ?_ _)); exact BK234.out⟩, ⟨by repeat (first | (with_reducible first | exact HB.out | apply below_alloc | apply pw_below_drewN | apply below_drew1 | refine below_set ?_ GE227.out | refine below_set ?_ GE233.out | refine below_set ?_ GE234.out) | exact HB.out)⟩⟩
      ·rw [if_neg c48] at H
       have c48b0 : (t220 == 12) = false := beq_eq_false_iff_ne.mpr c48
       have c48b1 : (t220 != 12) = true := bne_iff_ne.mpr c48
       (first | rw [c48b0] | (simp only [i64_w, i32_w]; rw [c48b0]) | skip)
       have H' := Aside0.mk H
       clear H
       go_wp2
       go_meet
       case rel => exact ⟨_, (t219), (wrap64 (t220 + 1)), H', ⟨by have := HJ5.out; first | omega | exact Nat.le_refl _⟩, ⟨by (with_reducible repeat (first | refine blk_drewN ?_ _ | refine blk_drew ?_ | refine blk_alloc ?_ _)); exact BK227.out⟩, ⟨by (with_reducible repeat (first | refine blk_drewN ?_ _ | refine blk_drew ?_ | refine blk_alloc ?_ _)); exact BK233.out⟩, ⟨by (with_reducible repeat (first | refine blk_drewN ?_ _ | refine blk_drew ?_ | refine blk_alloc ?_ _)); exact BK234.out⟩, ⟨by repeat (first | (with_reducible first | exact HB.out | apply below_alloc | apply pw_below_drewN | apply below_drew1 | refine below_set ?_ GE227.out | refine below_set ?_ GE233.out | refine below_set ?_ GE234.out) | exact HB.out)⟩⟩
     case rest =>
      clear HC27
      try clear c1
      try clear c2
      try clear p2
      try clear c3
      try clear c4
      try clear c5
      try clear p6
      try clear c9
      try clear c14
      try clear c14b0
      try clear c14b1
      try clear c16
      try clear c20
      try clear c21
      try clear c22
      try clear c24
      try clear c25
      try clear c40
      try clear c43
      try clear c44
      try clear c48
      try clear c48b0
      try clear c48b1
      try clear c49
      try clear c50
      try clear c52
      try clear hcz11_0
      try clear hcz11_1
      try clear hcz11_2
      try clear hcz11_3
      try clear hcz11_4
      try clear hcz11_5
      try clear hcz11_6
      try clear hcz11_7
      try clear hcz16_0
      try clear hcz16_1
      try clear hcz16_2
      try clear hcz16_3
      try clear hcz16_4
      try clear hcz16_5
      try clear hcz16_6
      try clear hcz16_7
      try clear hcz18_0
      try clear hcz18_1
      try clear hcz18_2
      try clear hcz18_3
      try clear hcz18_4
      try clear hcz18_5
      try clear hcz18_6
      try clear hcz18_7
      try clear hcz20_0
      try clear hcz20_1
      try clear hcz20_2
      try clear hcz20_3
      try clear hcz20_4
      try clear hcz20_5
      try clear hcz20_6
      try clear hcz20_7
      try clear hcz24_0
      try clear hcz24_1
      try clear hcz24_2
      try clear hcz24_3
      try clear hcz24_4
      try clear hcz24_5
      try clear hcz24_6
      try clear hcz24_7
      try clear hcz41_0
      try clear hcz41_1
      try clear hcz41_2
      try clear hcz41_3
      try clear hcz41_4
      try clear hcz41_5
      try clear hcz41_6
      try clear hcz41_7
      try clear hcz45_0
      try clear hcz45_1
      try clear hcz45_2
      try clear hcz45_3
      try clear hcz45_4
      try clear hcz45_5
      try clear hcz45_6
      try clear hcz45_7
      try clear hcz47_0
      try clear hcz47_1
      try clear hcz47_2
      try clear hcz47_3
      try clear hcz47_4
      try clear hcz47_5
      try clear hcz47_6
      try clear hcz47_7
      try clear hcz51_0
      try clear hcz51_1
      try clear hcz51_2
      try clear hcz51_3
      try clear hcz51_4
      try clear hcz51_5
      try clear hcz51_6
      try clear hcz51_7
      try clear hcz53_0
      try clear hcz53_1
      try clear hcz53_2
      try clear hcz53_3
      try clear hcz53_4
      try clear hcz53_5
      try clear hcz53_6
      try clear hcz53_7
      try clear hcz9_0
      try clear hcz9_1
      try clear hcz9_2
      try clear hcz9_3
      try clear hcz9_4
      try clear hcz9_5
      try clear hcz9_6
      try clear hcz9_7
      try clear hfz11_0
      try clear hfz11_1
      try clear hfz11_2
      try clear hfz11_3
      try clear hfz11_4
      try clear hfz11_5
      try clear hfz11_6
      try clear hfz11_7
      try clear hfz16_0
      try clear hfz16_1
      try clear hfz16_2
      try clear hfz16_3
      try clear hfz16_4
      try clear hfz16_5
      try clear hfz16_6
      try clear hfz16_7
      try clear hfz18_0
      try clear hfz18_1
      try clear hfz18_2
      try clear hfz18_3
      try clear hfz18_4
      try clear hfz18_5
      try clear hfz18_6
      try clear hfz18_7
      try clear hfz20_0
      try clear hfz20_1
      try clear hfz20_2
      try clear hfz20_3
      try clear hfz20_4
      try clear hfz20_5
      try clear hfz20_6
      try clear hfz20_7
      try clear hfz24_0
      try clear hfz24_1
      try clear hfz24_2
      try clear hfz24_3
      try clear hfz24_4
      try clear hfz24_5
      try clear hfz24_6
      try clear hfz24_7
      try clear hfz41_0
      try clear hfz41_1
      try clear hfz41_2
      try clear hfz41_3
      try clear hfz41_4
      try clear hfz41_5
      try clear hfz41_6
      try clear hfz41_7
      try clear hfz45_0
      try clear hfz45_1
      try clear hfz45_2
      try clear hfz45_3
      try clear hfz45_4
      try clear hfz45_5
      try clear hfz45_6
      try clear hfz45_7
      try clear hfz47_0
      try clear hfz47_1
      try clear hfz47_2
      try clear hfz47_3
      try clear hfz47_4
      try clear hfz47_5
      try clear hfz47_6
      try clear hfz47_7
      try clear hfz51_0
      try clear hfz51_1
      try clear hfz51_2
      try clear hfz51_3
      try clear hfz51_4
      try clear hfz51_5
      try clear hfz51_6
      try clear hfz51_7
      try clear hfz53_0
      try clear hfz53_1
      try clear hfz53_2
      try clear hfz53_3
      try clear hfz53_4
      try clear hfz53_5
      try clear hfz53_6
      try clear hfz53_7
      try clear hfz9_0
      try clear hfz9_1
      try clear hfz9_2
      try clear hfz9_3
      try clear hfz9_4
      try clear hfz9_5
      try clear hfz9_6
      try clear hfz9_7
      try clear p2
      obtain ⟨kq, x235000_26, x235001_26, HA, HJ26, BK227, BK233, BK234, HB⟩ := hcut
      cases kq with
      | zero => exact absurd HA.out (by simp [laws_FnNextDay.j1])
      | succ kj26 =>
       have H := HA.out
       clear HA
       simp only [laws_FnNextDay.j1] at H
       have H' := Aside0.mk H
       clear H
       go_wp2
       go_loopg [7, 8] kj26 (fun kq v7 v8 w' => ∃ (x7_3 : Int) (x8_3 : Int), v7 = .int .i64 x7_3 ∧ v8 = .int .i64 x8_3 ∧ Aside0 (laws_FnNextDay.l0 kq x7_3 x8_3 t219 t220 t221 t222 t223 t224 t225 t226 t219 t220 t232 23 59 59 t225 t226 x235000_26 x235001_26 1 0 0 0 t225 t226 = some r) ∧ Aside0 (kq ≤ kj26) ∧ Aside0 (w'.heap[gb227]? = some (.cells #[.int .i64 t219, .int .i64 t220, .int .i64 t221, .int .i64 t222, .int .i64 t223, .int .i64 t224, .bool t225, .int .i64 t226] 29 (0, 0))) ∧ Aside0 (w'.heap[gb233]? = some (.cells #[.int .i64 t219, .int .i64 t220, .int .i64 t232, .int .i64 23, .int .i64 59, .int .i64 59, .bool t225, .int .i64 t226] 29 (0, 0))) ∧ Aside0 (w'.heap[gb234]? = some (.cells #[.int .i64 x235000_26, .int .i64 x235001_26, .int .i64 1, .int .i64 0, .int .i64 0, .int .i64 0, .bool t225, .int .i64 t226] 29 (0, 0))) ∧ Aside0 (Below w.heap.size w w'))
       case atStart => exact ⟨(0), (1), (by first | rfl | (simp; done) | (simp [*]; done)), (by first | rfl | (simp; done) | (simp [*]; done)), H', ⟨Nat.le_refl _⟩, ⟨by (with_reducible repeat (first | refine blk_drewN ?_ _ | refine blk_drew ?_ | refine blk_alloc ?_ _)); exact BK227.out⟩, ⟨by (with_reducible repeat (first | refine blk_drewN ?_ _ | refine blk_drew ?_ | refine blk_alloc ?_ _)); exact BK233.out⟩, ⟨by (with_reducible repeat (first | refine blk_drewN ?_ _ | refine blk_drew ?_ | refine blk_alloc ?_ _)); exact BK234.out⟩, ⟨by repeat (first | (with_reducible first | exact HB.out | apply below_alloc | apply pw_below_drewN | apply below_drew1 | refine below_set ?_ GE227.out | refine below_set ?_ GE233.out | refine below_set ?_ GE234.out) | exact HB.out)⟩⟩
       case round =>
        clear H'
        try clear c1
        try clear c2
        try clear p2
        try clear c3
        try clear c4
        try clear c5
        try clear p6
        try clear c9
        try clear c14
        try clear c14b0
        try clear c14b1
        try clear c16
        try clear c20
        try clear c21
        try clear c22
        try clear c24
        try clear c25
        try clear c40
        try clear c43
        try clear c44
        try clear c48
        try clear c48b0
        try clear c48b1
        try clear c49
        try clear c50
        try clear c52
        try clear hcz11_0
        try clear hcz11_1
        try clear hcz11_2
        try clear hcz11_3
        try clear hcz11_4
        try clear hcz11_5
        try clear hcz11_6
        try clear hcz11_7
        try clear hcz16_0
        try clear hcz16_1
        try clear hcz16_2
        try clear hcz16_3
        try clear hcz16_4
        try clear hcz16_5
        try clear hcz16_6
        try clear hcz16_7
        try clear hcz18_0
        try clear hcz18_1
        try clear hcz18_2
        try clear hcz18_3
        try clear hcz18_4
        try clear hcz18_5
        try clear hcz18_6
        try clear hcz18_7
        try clear hcz20_0
        try clear hcz20_1
        try clear hcz20_2
        try clear hcz20_3
        try clear hcz20_4
        try clear hcz20_5
        try clear hcz20_6
        try clear hcz20_7
        try clear hcz24_0
        try clear hcz24_1
        try clear hcz24_2
        try clear hcz24_3
        try clear hcz24_4
        try clear hcz24_5
        try clear hcz24_6
        try clear hcz24_7
        try clear hcz41_0
        try clear hcz41_1
        try clear hcz41_2
        try clear hcz41_3
        try clear hcz41_4
        try clear hcz41_5
        try clear hcz41_6
        try clear hcz41_7
        try clear hcz45_0
        try clear hcz45_1
        try clear hcz45_2
        try clear hcz45_3
        try clear hcz45_4
        try clear hcz45_5
        try clear hcz45_6
        try clear hcz45_7
        try clear hcz47_0
        try clear hcz47_1
        try clear hcz47_2
        try clear hcz47_3
        try clear hcz47_4
        try clear hcz47_5
        try clear hcz47_6
        try clear hcz47_7
        try clear hcz51_0
        try clear hcz51_1
        try clear hcz51_2
        try clear hcz51_3
        try clear hcz51_4
        try clear hcz51_5
        try clear hcz51_6
        try clear hcz51_7
        try clear hcz53_0
        try clear hcz53_1
        try clear hcz53_2
        try clear hcz53_3
        try clear hcz53_4
        try clear hcz53_5
        try clear hcz53_6
        try clear hcz53_7
        try clear hcz9_0
        try clear hcz9_1
        try clear hcz9_2
        try clear hcz9_3
        try clear hcz9_4
        try clear hcz9_5
        try clear hcz9_6
        try clear hcz9_7
        try clear hfz11_0
        try clear hfz11_1
        try clear hfz11_2
        try clear hfz11_3
        try clear hfz11_4
        try clear hfz11_5
        try clear hfz11_6
        try clear hfz11_7
        try clear hfz16_0
        try clear hfz16_1
        try clear hfz16_2
        try clear hfz16_3
        try clear hfz16_4
        try clear hfz16_5
        try clear hfz16_6
        try clear hfz16_7
        try clear hfz18_0
        try clear hfz18_1
        try clear hfz18_2
        try clear hfz18_3
        try clear hfz18_4
        try clear hfz18_5
        try clear hfz18_6
        try clear hfz18_7
        try clear hfz20_0
        try clear hfz20_1
        try clear hfz20_2
        try clear hfz20_3
        try clear hfz20_4
        try clear hfz20_5
        try clear hfz20_6
        try clear hfz20_7
        try clear hfz24_0
        try clear hfz24_1
        try clear hfz24_2
        try clear hfz24_3
        try clear hfz24_4
        try clear hfz24_5
        try clear hfz24_6
        try clear hfz24_7
        try clear hfz41_0
        try clear hfz41_1
        try clear hfz41_2
        try clear hfz41_3
        try clear hfz41_4
        try clear hfz41_5
        try clear hfz41_6
        try clear hfz41_7
        try clear hfz45_0
        try clear hfz45_1
        try clear hfz45_2
        try clear hfz45_3
        try clear hfz45_4
        try clear hfz45_5
        try clear hfz45_6
        try clear hfz45_7
        try clear hfz47_0
        try clear hfz47_1
        try clear hfz47_2
        try clear hfz47_3
        try clear hfz47_4
        try clear hfz47_5
        try clear hfz47_6
        try clear hfz47_7
        try clear hfz51_0
        try clear hfz51_1
        try clear hfz51_2
        try clear hfz51_3
        try clear hfz51_4
        try clear hfz51_5
        try clear hfz51_6
        try clear hfz51_7
        try clear hfz53_0
        try clear hfz53_1
        try clear hfz53_2
        try clear hfz53_3
        try clear hfz53_4
        try clear hfz53_5
        try clear hfz53_6
        try clear hfz53_7
        try clear hfz9_0
        try clear hfz9_1
        try clear hfz9_2
        try clear hfz9_3
        try clear hfz9_4
        try clear hfz9_5
        try clear hfz9_6
        try clear hfz9_7
        try clear p2
        try clear p6
        obtain ⟨x7_3, x8_3, rfl, rfl, HA, HK3, BK227, BK233, BK234, HB⟩ := hrel
        cases gk with
        | zero => exact absurd HA.out (by simp [laws_FnNextDay.l0])
        | succ k3 =>
         have H := HA.out
         clear HA
         simp only [laws_FnNextDay.l0] at H
         by_cases c54 : x8_3 ≤ 12
         ·rw [if_pos c54] at H
          have c54b0 : decide (x8_3 ≤ 12) = true := decide_eq_true c54
          clear c54
          replace H := Option.bind_eq_some_iff.mp H
          obtain ⟨t235, A550, H⟩ := H
          replace H : (laws_FnNextDay.l0 k3 (wrap64 (x7_3 + t235)) (wrap64 (x8_3 + 1)) t219 t220 t221 t222 t223 t224 t225 t226 t219 t220 t232 23 59 59 t225 t226 x235000_26 x235001_26 1 0 0 0 t225 t226) = some r := H
          have A55 := Aside0.mk A550
          clear A550
          have H' := Aside0.mk H
          clear H
          have hnb56 := NB227_233.out
          have hnc56 := NB233_227.out
          have hnb57 := NB227_234.out
          have hnc57 := NB234_227.out
          have hcz58_0 : wr.cell? ⟨gb227, 0, none⟩ = some (.int .i64 t219) := (blk_cell BK227.out 0).trans rfl
          have hcz58_1 : wr.cell? ⟨gb227, 1, none⟩ = some (.int .i64 t220) := (blk_cell BK227.out 1).trans rfl
          have hcz58_2 : wr.cell? ⟨gb227, 2, none⟩ = some (.int .i64 t221) := (blk_cell BK227.out 2).trans rfl
          have hcz58_3 : wr.cell? ⟨gb227, 3, none⟩ = some (.int .i64 t222) := (blk_cell BK227.out 3).trans rfl
          have hcz58_4 : wr.cell? ⟨gb227, 4, none⟩ = some (.int .i64 t223) := (blk_cell BK227.out 4).trans rfl
          have hcz58_5 : wr.cell? ⟨gb227, 5, none⟩ = some (.int .i64 t224) := (blk_cell BK227.out 5).trans rfl
          have hcz58_6 : wr.cell? ⟨gb227, 6, none⟩ = some (.bool t225) := (blk_cell BK227.out 6).trans rfl
          have hcz58_7 : wr.cell? ⟨gb227, 7, none⟩ = some (.int .i64 t226) := (blk_cell BK227.out 7).trans rfl
          have hfz58_0 := blk_frozen BK227.out 0
          have hfz58_1 := blk_frozen BK227.out 1
          have hfz58_2 := blk_frozen BK227.out 2
          have hfz58_3 := blk_frozen BK227.out 3
          have hfz58_4 := blk_frozen BK227.out 4
          have hfz58_5 := blk_frozen BK227.out 5
          have hfz58_6 := blk_frozen BK227.out 6
          have hfz58_7 := blk_frozen BK227.out 7
          go_wp2_with (first | ((with_reducible refine gate_callee (f := 16) rfl ?_); refine goesL_ (some 69) rfl rfl Try.func16 (by kernel_rfl) rfl #[.int .i64 t219, .int .i64 x8_3] rfl (by (try simp only [List.map_toArray, List.map_cons, List.map_nil]); first | done | rfl | (simp only [List.length_drop, List.length_take]; rfl)) ?_; (with_reducible refine (impl_DaysIn.calls t219 x8_3 t235 _ A55.out).mono ?_); rintro e w' ⟨rfl, ⟨nd, rfl⟩⟩; refine ⟨_, rfl, ?_⟩))
          go_roundg k3
          case measure => have := HJ5.out; have := HJ26.out; have := HK3.out; omega
          case rel => exact ⟨(wrap64 (x7_3 + t235)), (wrap64 (x8_3 + 1)), (by first | rfl | (simp; done) | (simp [*]; done)), (by first | rfl | (simp; done) | (simp [*]; done)), H', ⟨by have := HJ5.out; have := HJ26.out; have := HK3.out; omega⟩, ⟨by (with_reducible repeat (first | refine blk_drewN ?_ _ | refine blk_drew ?_ | refine blk_alloc ?_ _)); exact BK227.out⟩, ⟨by (with_reducible repeat (first | refine blk_drewN ?_ _ | refine blk_drew ?_ | refine blk_alloc ?_ _)); exact BK233.out⟩, ⟨by (with_reducible repeat (first | refine blk_drewN ?_ _ | refine blk_drew ?_ | refine blk_alloc ?_ _)); exact BK234.out⟩, ⟨by repeat (first | (with_reducible first | exact HB.out | apply below_alloc | apply pw_below_drewN | apply below_drew1 | refine below_set ?_ GE227.out | refine below_set ?_ GE233.out | refine below_set ?_ GE234.out) | exact HB.out)⟩⟩
         ·rw [if_neg c54] at H
          have c54b0 : decide (x8_3 ≤ 12) = false := decide_eq_false c54
          clear c54
          have HC59 := Aside0.mk H
          clear H
          go_upto_region 17 with (fail)
          go_cut [9] (fun v9 wc => ∃ (kq : Nat) (x9_58 : Bool), v9 = .bool x9_58 ∧ Aside0 (laws_FnNextDay.j3 kq x7_3 x9_58 t219 t220 t232 23 59 59 t225 t226 x235000_26 x235001_26 1 0 0 0 t225 t226 = some r) ∧ Aside0 (kq ≤ k3) ∧ Aside0 (wc.heap[gb227]? = some (.cells #[.int .i64 t219, .int .i64 t220, .int .i64 t221, .int .i64 t222, .int .i64 t223, .int .i64 t224, .bool t225, .int .i64 t226] 29 (0, 0))) ∧ Aside0 (wc.heap[gb233]? = some (.cells #[.int .i64 t219, .int .i64 t220, .int .i64 t232, .int .i64 23, .int .i64 59, .int .i64 59, .bool t225, .int .i64 t226] 29 (0, 0))) ∧ Aside0 (wc.heap[gb234]? = some (.cells #[.int .i64 x235000_26, .int .i64 x235001_26, .int .i64 1, .int .i64 0, .int .i64 0, .int .i64 0, .bool t225, .int .i64 t226] 29 (0, 0))) ∧ Aside0 (Below w.heap.size w wc))
          case first =>
           have H := HC59.out
           clear HC59
           by_cases c60 : (Int.tmod t219 4) = 0
           ·rw [if_pos c60] at H
            have c60b0 : ((Int.tmod t219 4) == 0) = true := beq_iff_eq.mpr c60
            have c60b1 : ((Int.tmod t219 4) != 0) = false := bne_eq_false_iff_eq.mpr c60
            clear c60
            (first | rw [c60b0] | (simp only [i64_w, i32_w]; rw [c60b0]) | skip)
            by_cases c61 : (Int.tmod t219 100) = 0
            ·rw [if_pos c61] at H
             have c61b0 : ((Int.tmod t219 100) == 0) = true := beq_iff_eq.mpr c61
             have c61b1 : ((Int.tmod t219 100) != 0) = false := bne_eq_false_iff_eq.mpr c61
             clear c61
             have H' := Aside0.mk H
             clear H
             have hnb62 := NB227_233.out
             have hnc62 := NB233_227.out
             have hnb63 := NB227_234.out
             have hnc63 := NB234_227.out
             have hcz64_0 : wr.cell? ⟨gb227, 0, none⟩ = some (.int .i64 t219) := (blk_cell BK227.out 0).trans rfl
             have hcz64_1 : wr.cell? ⟨gb227, 1, none⟩ = some (.int .i64 t220) := (blk_cell BK227.out 1).trans rfl
             have hcz64_2 : wr.cell? ⟨gb227, 2, none⟩ = some (.int .i64 t221) := (blk_cell BK227.out 2).trans rfl
             have hcz64_3 : wr.cell? ⟨gb227, 3, none⟩ = some (.int .i64 t222) := (blk_cell BK227.out 3).trans rfl
             have hcz64_4 : wr.cell? ⟨gb227, 4, none⟩ = some (.int .i64 t223) := (blk_cell BK227.out 4).trans rfl
             have hcz64_5 : wr.cell? ⟨gb227, 5, none⟩ = some (.int .i64 t224) := (blk_cell BK227.out 5).trans rfl
             have hcz64_6 : wr.cell? ⟨gb227, 6, none⟩ = some (.bool t225) := (blk_cell BK227.out 6).trans rfl
             have hcz64_7 : wr.cell? ⟨gb227, 7, none⟩ = some (.int .i64 t226) := (blk_cell BK227.out 7).trans rfl
             have hfz64_0 := blk_frozen BK227.out 0
             have hfz64_1 := blk_frozen BK227.out 1
             have hfz64_2 := blk_frozen BK227.out 2
             have hfz64_3 := blk_frozen BK227.out 3
             have hfz64_4 := blk_frozen BK227.out 4
             have hfz64_5 := blk_frozen BK227.out 5
             have hfz64_6 := blk_frozen BK227.out 6
             have hfz64_7 := blk_frozen BK227.out 7
             go_wp2
             go_meet
             case rel => exact ⟨_, (((Int.tmod t219 400) == 0)), (by first | rfl | (simp; done) | (simp [*]; done)), H', ⟨by have := HJ5.out; have := HJ26.out; have := HK3.out; first | omega | exact Nat.le_refl _⟩, ⟨by (with_reducible repeat (first | refine blk_drewN ?_ _ | refine blk_drew ?_ | refine blk_alloc ?_ _)); exact BK227.out⟩, ⟨by (with_reducible repeat (first | refine blk_drewN ?_ _ | refine blk_drew ?_ | refine blk_alloc ?_ _)); exact BK233.out⟩, ⟨by (with_reducible repeat (first | refine blk_drewN ?_ _ | refine blk_drew ?_ | refine blk_alloc ?_ _)); exact BK234.out⟩, ⟨by repeat (first | (with_reducible first | exact HB.out | apply below_alloc | apply pw_below_drewN | apply below_drew1 | refine below_set ?_ GE227.out | refine below_set ?_ GE233.out | refine below_set ?_ GE234.out) | exact HB.out)⟩⟩
            ·rw [if_neg c61] at H
             have c61b0 : ((Int.tmod t219 100) == 0) = false := beq_eq_false_iff_ne.mpr c61
             have c61b1 : ((Int.tmod t219 100) != 0) = true := bne_iff_ne.mpr c61
             have H' := Aside0.mk H
             clear H
             have hnb65 := NB227_233.out
             have hnc65 := NB233_227.out
             have hnb66 := NB227_234.out
             have hnc66 := NB234_227.out
             have hcz67_0 : wr.cell? ⟨gb227, 0, none⟩ = some (.int .i64 t219) := (blk_cell BK227.out 0).trans rfl
             have hcz67_1 : wr.cell? ⟨gb227, 1, none⟩ = some (.int .i64 t220) := (blk_cell BK227.out 1).trans rfl
             have hcz67_2 : wr.cell? ⟨gb227, 2, none⟩ = some (.int .i64 t221) := (blk_cell BK227.out 2).trans rfl
             have hcz67_3 : wr.cell? ⟨gb227, 3, none⟩ = some (.int .i64 t222) := (blk_cell BK227.out 3).trans rfl
             have hcz67_4 : wr.cell? ⟨gb227, 4, none⟩ = some (.int .i64 t223) := (blk_cell BK227.out 4).trans rfl
             have hcz67_5 : wr.cell? ⟨gb227, 5, none⟩ = some (.int .i64 t224) := (blk_cell BK227.out 5).trans rfl
             have hcz67_6 : wr.cell? ⟨gb227, 6, none⟩ = some (.bool t225) := (blk_cell BK227.out 6).trans rfl
             have hcz67_7 : wr.cell? ⟨gb227, 7, none⟩ = some (.int .i64 t226) := (blk_cell BK227.out 7).trans rfl
             have hfz67_0 := blk_frozen BK227.out 0
             have hfz67_1 := blk_frozen BK227.out 1
             have hfz67_2 := blk_frozen BK227.out 2
             have hfz67_3 := blk_frozen BK227.out 3
             have hfz67_4 := blk_frozen BK227.out 4
             have hfz67_5 := blk_frozen BK227.out 5
             have hfz67_6 := blk_frozen BK227.out 6
             have hfz67_7 := blk_frozen BK227.out 7
             go_wp2
             go_meet
             case rel => exact ⟨_, (true), (by first | rfl | (simp; done) | (simp [*]; done)), H', ⟨by have := HJ5.out; have := HJ26.out; have := HK3.out; first | omega | exact Nat.le_refl _⟩, ⟨by (with_reducible repeat (first | refine blk_drewN ?_ _ | refine blk_drew ?_ | refine blk_alloc ?_ _)); exact BK227.out⟩, ⟨by (with_reducible repeat (first | refine blk_drewN ?_ _ | refine blk_drew ?_ | refine blk_alloc ?_ _)); exact BK233.out⟩, ⟨by (with_reducible repeat (first | refine blk_drewN ?_ _ | refine blk_drew ?_ | refine blk_alloc ?_ _)); exact BK234.out⟩, ⟨by repeat (first | (with_reducible first | exact HB.out | apply below_alloc | apply pw_below_drewN | apply below_drew1 | refine below_set ?_ GE227.out | refine below_set ?_ GE233.out | refine below_set ?_ GE234.out) | exact HB.out)⟩⟩
           ·rw [if_neg c60] at H
            have c60b0 : ((Int.tmod t219 4) == 0) = false := beq_eq_false_iff_ne.mpr c60
            have c60b1 : ((Int.tmod t219 4) != 0) = true := bne_iff_ne.mpr c60
            (first | rw [c60b0] | (simp only [i64_w, i32_w]; rw [c60b0]) | skip)
            have H' := Aside0.mk H
            clear H
            have hnb68 := NB227_233.out
            have hnc68 := NB233_227.out
            have hnb69 := NB227_234.out
            have hnc69 := NB234_227.out
            have hcz70_0 : wr.cell? ⟨gb227, 0, none⟩ = some (.int .i64 t219) := (blk_cell BK227.out 0).trans rfl
            have hcz70_1 : wr.cell? ⟨gb227, 1, none⟩ = some (.int .i64 t220) := (blk_cell BK227.out 1).trans rfl
            have hcz70_2 : wr.cell? ⟨gb227, 2, none⟩ = some (.int .i64 t221) := (blk_cell BK227.out 2).trans rfl
            have hcz70_3 : wr.cell? ⟨gb227, 3, none⟩ = some (.int .i64 t222) := (blk_cell BK227.out 3).trans rfl
            have hcz70_4 : wr.cell? ⟨gb227, 4, none⟩ = some (.int .i64 t223) := (blk_cell BK227.out 4).trans rfl
            have hcz70_5 : wr.cell? ⟨gb227, 5, none⟩ = some (.int .i64 t224) := (blk_cell BK227.out 5).trans rfl
            have hcz70_6 : wr.cell? ⟨gb227, 6, none⟩ = some (.bool t225) := (blk_cell BK227.out 6).trans rfl
            have hcz70_7 : wr.cell? ⟨gb227, 7, none⟩ = some (.int .i64 t226) := (blk_cell BK227.out 7).trans rfl
            have hfz70_0 := blk_frozen BK227.out 0
            have hfz70_1 := blk_frozen BK227.out 1
            have hfz70_2 := blk_frozen BK227.out 2
            have hfz70_3 := blk_frozen BK227.out 3
            have hfz70_4 := blk_frozen BK227.out 4
            have hfz70_5 := blk_frozen BK227.out 5
            have hfz70_6 := blk_frozen BK227.out 6
            have hfz70_7 := blk_frozen BK227.out 7
            go_wp2
            go_meet
            case rel => exact ⟨_, (false), (by first | rfl | (simp; done) | (simp [*]; done)), H', ⟨by have := HJ5.out; have := HJ26.out; have := HK3.out; first | omega | exact Nat.le_refl _⟩, ⟨by (with_reducible repeat (first | refine blk_drewN ?_ _ | refine blk_drew ?_ | refine blk_alloc ?_ _)); exact BK227.out⟩, ⟨by (with_reducible repeat (first | refine blk_drewN ?_ _ | refine blk_drew ?_ | refine blk_alloc ?_ _)); exact BK233.out⟩, ⟨by (with_reducible repeat (first | refine blk_drewN ?_ _ | refine blk_drew ?_ | refine blk_alloc ?_ _)); exact BK234.out⟩, ⟨by repeat (first | (with_reducible first | exact HB.out | apply below_alloc | apply pw_below_drewN | apply below_drew1 | refine below_set ?_ GE227.out | refine below_set ?_ GE233.out | refine below_set ?_ GE234.out) | exact HB.out)⟩⟩
          case rest =>
           clear HC59
           try clear c1
           try clear c2
           try clear p2
           try clear c3
           try clear c4
           try clear c5
           try clear c6
           try clear p6
           try clear c9
           try clear c14
           try clear c14b0
           try clear c14b1
           try clear c16
           try clear c20
           try clear c21
           try clear c22
           try clear c24
           try clear c25
           try clear c40
           try clear c43
           try clear c44
           try clear c48
           try clear c48b0
           try clear c48b1
           try clear c49
           try clear c50
           try clear c52
           try clear c54
           try clear c54b0
           try clear c56
           try clear c57
           try clear c60
           try clear c60b0
           try clear c60b1
           try clear c61
           try clear c61b0
           try clear c61b1
           try clear c62
           try clear c63
           try clear p64
           try clear c65
           try clear c66
           try clear c68
           try clear c69
           try clear hcz11_0
           try clear hcz11_1
           try clear hcz11_2
           try clear hcz11_3
           try clear hcz11_4
           try clear hcz11_5
           try clear hcz11_6
           try clear hcz11_7
           try clear hcz16_0
           try clear hcz16_1
           try clear hcz16_2
           try clear hcz16_3
           try clear hcz16_4
           try clear hcz16_5
           try clear hcz16_6
           try clear hcz16_7
           try clear hcz18_0
           try clear hcz18_1
           try clear hcz18_2
           try clear hcz18_3
           try clear hcz18_4
           try clear hcz18_5
           try clear hcz18_6
           try clear hcz18_7
           try clear hcz20_0
           try clear hcz20_1
           try clear hcz20_2
           try clear hcz20_3
           try clear hcz20_4
           try clear hcz20_5
           try clear hcz20_6
           try clear hcz20_7
           try clear hcz24_0
           try clear hcz24_1
           try clear hcz24_2
           try clear hcz24_3
           try clear hcz24_4
           try clear hcz24_5
           try clear hcz24_6
           try clear hcz24_7
           try clear hcz41_0
           try clear hcz41_1
           try clear hcz41_2
           try clear hcz41_3
           try clear hcz41_4
           try clear hcz41_5
           try clear hcz41_6
           try clear hcz41_7
           try clear hcz45_0
           try clear hcz45_1
           try clear hcz45_2
           try clear hcz45_3
           try clear hcz45_4
           try clear hcz45_5
           try clear hcz45_6
           try clear hcz45_7
           try clear hcz47_0
           try clear hcz47_1
           try clear hcz47_2
           try clear hcz47_3
           try clear hcz47_4
           try clear hcz47_5
           try clear hcz47_6
           try clear hcz47_7
           try clear hcz51_0
           try clear hcz51_1
           try clear hcz51_2
           try clear hcz51_3
           try clear hcz51_4
           try clear hcz51_5
           try clear hcz51_6
           try clear hcz51_7
           try clear hcz53_0
           try clear hcz53_1
           try clear hcz53_2
           try clear hcz53_3
           try clear hcz53_4
           try clear hcz53_5
           try clear hcz53_6
           try clear hcz53_7
           try clear hcz58_0
           try clear hcz58_1
           try clear hcz58_2
           try clear hcz58_3
           try clear hcz58_4
           try clear hcz58_5
           try clear hcz58_6
           try clear hcz58_7
           try clear hcz64_0
           try clear hcz64_1
           try clear hcz64_2
           try clear hcz64_3
           try clear hcz64_4
           try clear hcz64_5
           try clear hcz64_6
           try clear hcz64_7
           try clear hcz67_0
           try clear hcz67_1
           try clear hcz67_2
           try clear hcz67_3
           try clear hcz67_4
           try clear hcz67_5
           try clear hcz67_6
           try clear hcz67_7
           try clear hcz70_0
           try clear hcz70_1
           try clear hcz70_2
           try clear hcz70_3
           try clear hcz70_4
           try clear hcz70_5
           try clear hcz70_6
           try clear hcz70_7
           try clear hcz9_0
           try clear hcz9_1
           try clear hcz9_2
           try clear hcz9_3
           try clear hcz9_4
           try clear hcz9_5
           try clear hcz9_6
           try clear hcz9_7
           try clear hfz11_0
           try clear hfz11_1
           try clear hfz11_2
           try clear hfz11_3
           try clear hfz11_4
           try clear hfz11_5
           try clear hfz11_6
           try clear hfz11_7
           try clear hfz16_0
           try clear hfz16_1
           try clear hfz16_2
           try clear hfz16_3
           try clear hfz16_4
           try clear hfz16_5
           try clear hfz16_6
           try clear hfz16_7
           try clear hfz18_0
           try clear hfz18_1
           try clear hfz18_2
           try clear hfz18_3
           try clear hfz18_4
           try clear hfz18_5
           try clear hfz18_6
           try clear hfz18_7
           try clear hfz20_0
           try clear hfz20_1
           try clear hfz20_2
           try clear hfz20_3
           try clear hfz20_4
           try clear hfz20_5
           try clear hfz20_6
           try clear hfz20_7
           try clear hfz24_0
           try clear hfz24_1
           try clear hfz24_2
           try clear hfz24_3
           try clear hfz24_4
           try clear hfz24_5
           try clear hfz24_6
           try clear hfz24_7
           try clear hfz41_0
           try clear hfz41_1
           try clear hfz41_2
           try clear hfz41_3
           try clear hfz41_4
           try clear hfz41_5
           try clear hfz41_6
           try clear hfz41_7
           try clear hfz45_0
           try clear hfz45_1
           try clear hfz45_2
           try clear hfz45_3
           try clear hfz45_4
           try clear hfz45_5
           try clear hfz45_6
           try clear hfz45_7
           try clear hfz47_0
           try clear hfz47_1
           try clear hfz47_2
           try clear hfz47_3
           try clear hfz47_4
           try clear hfz47_5
           try clear hfz47_6
           try clear hfz47_7
           try clear hfz51_0
           try clear hfz51_1
           try clear hfz51_2
           try clear hfz51_3
           try clear hfz51_4
           try clear hfz51_5
           try clear hfz51_6
           try clear hfz51_7
           try clear hfz53_0
           try clear hfz53_1
           try clear hfz53_2
           try clear hfz53_3
           try clear hfz53_4
           try clear hfz53_5
           try clear hfz53_6
           try clear hfz53_7
           try clear hfz58_0
           try clear hfz58_1
           try clear hfz58_2
           try clear hfz58_3
           try clear hfz58_4
           try clear hfz58_5
           try clear hfz58_6
           try clear hfz58_7
           try clear hfz64_0
           try clear hfz64_1
           try clear hfz64_2
           try clear hfz64_3
           try clear hfz64_4
           try clear hfz64_5
           try clear hfz64_6
           try clear hfz64_7
           try clear hfz67_0
           try clear hfz67_1
           try clear hfz67_2
           try clear hfz67_3
           try clear hfz67_4
           try clear hfz67_5
           try clear hfz67_6
           try clear hfz67_7
           try clear hfz70_0
           try clear hfz70_1
           try clear hfz70_2
           try clear hfz70_3
           try clear hfz70_4
           try clear hfz70_5
           try clear hfz70_6
           try clear hfz70_7
           try clear hfz9_0
           try clear hfz9_1
           try clear hfz9_2
           try clear hfz9_3
           try clear hfz9_4
           try clear hfz9_5
           try clear hfz9_6
           try clear hfz9_7
           try clear p2
           try clear p6
           obtain ⟨kq, x9_58, rfl, HA, HJ58, BK227, BK233, BK234, HB⟩ := hcut
           cases kq with
           | zero => exact absurd HA.out (by simp [laws_FnNextDay.j3])
           | succ kj58 =>
            have H := HA.out
            clear HA
            simp only [laws_FnNextDay.j3] at H
            have HC71 := Aside0.mk H
            clear H
            go_upto_region 18 with (fail)
            go_cut [104] (fun v104 wc => ∃ (kq : Nat) (x104_70 : Bool), v104 = .bool x104_70 ∧ Aside0 (laws_FnNextDay.j4 kq x104_70 t219 t220 t232 23 59 59 t225 t226 x235000_26 x235001_26 1 0 0 0 t225 t226 = some r) ∧ Aside0 (kq ≤ kj58) ∧ Aside0 (wc.heap[gb227]? = some (.cells #[.int .i64 t219, .int .i64 t220, .int .i64 t221, .int .i64 t222, .int .i64 t223, .int .i64 t224, .bool t225, .int .i64 t226] 29 (0, 0))) ∧ Aside0 (wc.heap[gb233]? = some (.cells #[.int .i64 t219, .int .i64 t220, .int .i64 t232, .int .i64 23, .int .i64 59, .int .i64 59, .bool t225, .int .i64 t226] 29 (0, 0))) ∧ Aside0 (wc.heap[gb234]? = some (.cells #[.int .i64 x235000_26, .int .i64 x235001_26, .int .i64 1, .int .i64 0, .int .i64 0, .int .i64 0, .bool t225, .int .i64 t226] 29 (0, 0))) ∧ Aside0 (Below w.heap.size w wc))
            case first =>
             have H := HC71.out
             clear HC71
             by_cases c72 : x7_3 = 365
             ·rw [if_pos c72] at H
              have c72b0 : (x7_3 == 365) = true := beq_iff_eq.mpr c72
              have c72b1 : (x7_3 != 365) = false := bne_eq_false_iff_eq.mpr c72
              clear c72
              (first | rw [c72b0] | (simp only [i64_w, i32_w]; rw [c72b0]) | skip)
              by_cases c73 : x7_3 = 366
              ·rw [if_pos c73] at H
               have c73b0 : (x7_3 == 366) = true := beq_iff_eq.mpr c73
               have c73b1 : (x7_3 != 366) = false := bne_eq_false_iff_eq.mpr c73
               clear c73
               replace H := Option.bind_eq_some_iff.mp H
               obtain ⟨t236, A740, H⟩ := H
               replace H : (laws_FnNextDay.j4 kj58 (!t236) t219 t220 t232 23 59 59 t225 t226 x235000_26 x235001_26 1 0 0 0 t225 t226) = some r := H
               have A74 := Aside0.mk A740
               clear A740
               have H' := Aside0.mk H
               clear H
               have hnb75 := NB233_227.out
               have hnc75 := NB227_233.out
               have hnb76 := NB233_234.out
               have hnc76 := NB234_233.out
               have hcz77_0 : wc.cell? ⟨gb233, 0, none⟩ = some (.int .i64 t219) := (blk_cell BK233.out 0).trans rfl
               have hcz77_1 : wc.cell? ⟨gb233, 1, none⟩ = some (.int .i64 t220) := (blk_cell BK233.out 1).trans rfl
               have hcz77_2 : wc.cell? ⟨gb233, 2, none⟩ = some (.int .i64 t232) := (blk_cell BK233.out 2).trans rfl
               have hcz77_3 : wc.cell? ⟨gb233, 3, none⟩ = some (.int .i64 23) := (blk_cell BK233.out 3).trans rfl
               have hcz77_4 : wc.cell? ⟨gb233, 4, none⟩ = some (.int .i64 59) := (blk_cell BK233.out 4).trans rfl
               have hcz77_5 : wc.cell? ⟨gb233, 5, none⟩ = some (.int .i64 59) := (blk_cell BK233.out 5).trans rfl
               have hcz77_6 : wc.cell? ⟨gb233, 6, none⟩ = some (.bool t225) := (blk_cell BK233.out 6).trans rfl
               have hcz77_7 : wc.cell? ⟨gb233, 7, none⟩ = some (.int .i64 t226) := (blk_cell BK233.out 7).trans rfl
               have hfz77_0 := blk_frozen BK233.out 0
               have hfz77_1 := blk_frozen BK233.out 1
               have hfz77_2 := blk_frozen BK233.out 2
               have hfz77_3 := blk_frozen BK233.out 3
               have hfz77_4 := blk_frozen BK233.out 4
               have hfz77_5 := blk_frozen BK233.out 5
               have hfz77_6 := blk_frozen BK233.out 6
               have hfz77_7 := blk_frozen BK233.out 7
               go_wp2_with (first | (go_at_call 19; (with_reducible refine (impl_DateOk.calls t219 t220 t232 23 59 59 t225 t226 t236 _ A74.out).mono ?_); rintro e w78 ⟨rfl, hb⟩; have n0_ := Aside0.mk (blk_below (g := gb227) (o := .cells #[.int .i64 t219, .int .i64 t220, .int .i64 t221, .int .i64 t222, .int .i64 t223, .int .i64 t224, .bool t225, .int .i64 t226] 29 (0, 0)) (by (with_reducible repeat (first | refine blk_drewN ?_ _ | refine blk_drew ?_ | refine blk_alloc ?_ _)); exact BK227.out) hb); have n1_ := Aside0.mk (blk_below (g := gb233) (o := .cells #[.int .i64 t219, .int .i64 t220, .int .i64 t232, .int .i64 23, .int .i64 59, .int .i64 59, .bool t225, .int .i64 t226] 29 (0, 0)) (by (with_reducible repeat (first | refine blk_drewN ?_ _ | refine blk_drew ?_ | refine blk_alloc ?_ _)); exact BK233.out) hb); have n2_ := Aside0.mk (blk_below (g := gb234) (o := .cells #[.int .i64 x235000_26, .int .i64 x235001_26, .int .i64 1, .int .i64 0, .int .i64 0, .int .i64 0, .bool t225, .int .i64 t226] 29 (0, 0)) (by (with_reducible repeat (first | refine blk_drewN ?_ _ | refine blk_drew ?_ | refine blk_alloc ?_ _)); exact BK234.out) hb); have n3_ := Aside0.mk (below_step (by repeat (first | (with_reducible first | exact HB.out | apply below_alloc | apply pw_below_drewN | apply below_drew1 | refine below_set ?_ GE227.out | refine below_set ?_ GE233.out | refine below_set ?_ GE234.out) | exact HB.out)) hb); clear BK227; clear BK233; clear BK234; clear HB; have BK227 := n0_; have BK233 := n1_; have BK234 := n2_; have HB := n3_; clear n0_ n1_ n2_ n3_; (try clear hb); (try clear hb2); (try clear hk); (try clear hi)))
               go_meet
               case rel => exact ⟨_, (!t236), (by first | rfl | (simp; done) | (simp [*]; done)), H', ⟨by have := HJ5.out; have := HJ26.out; have := HK3.out; have := HJ58.out; first | omega | exact Nat.le_refl _⟩, ⟨by (with_reducible repeat (first | refine blk_drewN ?_ _ | refine blk_drew ?_ | refine blk_alloc ?_ _)); exact BK227.out⟩, ⟨by (with_reducible repeat (first | refine blk_drewN ?_ _ | refine blk_drew ?_ | refine blk_alloc ?_ _)); exact BK233.out⟩, ⟨by (with_reducible repeat (first | refine blk_drewN ?_ _ | refine blk_drew ?_ | refine blk_alloc ?_ _)); exact BK234.out⟩, ⟨by repeat (first | (with_reducible first | exact HB.out | apply below_alloc | apply pw_below_drewN | apply below_drew1 | refine below_set ?_ GE227.out | refine below_set ?_ GE233.out | refine below_set ?_ GE234.out) | exact HB.out)⟩⟩
              ·rw [if_neg c73] at H
               have c73b0 : (x7_3 == 366) = false := beq_eq_false_iff_ne.mpr c73
               have c73b1 : (x7_3 != 366) = true := bne_iff_ne.mpr c73
               by_cases c79 : x9_58 = true
               ·subst c79
                have H1 : (laws_FnNextDay.j4 kj58 true t219 t220 t232 23 59 59 t225 t226 x235000_26 x235001_26 1 0 0 0 t225 t226) = some r := by rw [if_pos rfl] at H; exact H
                clear H
                have H := H1
                clear H1
                have H' := Aside0.mk H
                clear H
                go_wp2
                go_meet
                case rel => exact ⟨_, (true), (by first | rfl | (simp; done) | (simp [*]; done)), H', ⟨by have := HJ5.out; have := HJ26.out; have := HK3.out; have := HJ58.out; first | omega | exact Nat.le_refl _⟩, ⟨by (with_reducible repeat (first | refine blk_drewN ?_ _ | refine blk_drew ?_ | refine blk_alloc ?_ _)); exact BK227.out⟩, ⟨by (with_reducible repeat (first | refine blk_drewN ?_ _ | refine blk_drew ?_ | refine blk_alloc ?_ _)); exact BK233.out⟩, ⟨by (with_reducible repeat (first | refine blk_drewN ?_ _ | refine blk_drew ?_ | refine blk_alloc ?_ _)); exact BK234.out⟩, ⟨by repeat (first | (with_reducible first | exact HB.out | apply below_alloc | apply pw_below_drewN | apply below_drew1 | refine below_set ?_ GE227.out | refine below_set ?_ GE233.out | refine below_set ?_ GE234.out) | exact HB.out)⟩⟩
               ·replace c79 := Bool.eq_false_iff.mpr c79
                subst c79
                have H1 : ((impl_DateOk.f t219 t220 t232 23 59 59 t225 t226).bind fun t237 => (laws_FnNextDay.j4 kj58 (!t237) t219 t220 t232 23 59 59 t225 t226 x235000_26 x235001_26 1 0 0 0 t225 t226)) = some r := by rw [if_neg (show ¬ (false = true) by decide)] at H; exact H
                clear H
                have H := H1
                clear H1
                replace H := Option.bind_eq_some_iff.mp H
                obtain ⟨t237, A800, H⟩ := H
                replace H : (laws_FnNextDay.j4 kj58 (!t237) t219 t220 t232 23 59 59 t225 t226 x235000_26 x235001_26 1 0 0 0 t225 t226) = some r := H
                have A80 := Aside0.mk A800
                clear A800
                have H' := Aside0.mk H
                clear H
                have hnb81 := NB233_227.out
                have hnc81 := NB227_233.out
                have hnb82 := NB233_234.out
                have hnc82 := NB234_233.out
                have hcz83_0 : wc.cell? ⟨gb233, 0, none⟩ = some (.int .i64 t219) := (blk_cell BK233.out 0).trans rfl
                have hcz83_1 : wc.cell? ⟨gb233, 1, none⟩ = some (.int .i64 t220) := (blk_cell BK233.out 1).trans rfl
                have hcz83_2 : wc.cell? ⟨gb233, 2, none⟩ = some (.int .i64 t232) := (blk_cell BK233.out 2).trans rfl
                have hcz83_3 : wc.cell? ⟨gb233, 3, none⟩ = some (.int .i64 23) := (blk_cell BK233.out 3).trans rfl
                have hcz83_4 : wc.cell? ⟨gb233, 4, none⟩ = some (.int .i64 59) := (blk_cell BK233.out 4).trans rfl
                have hcz83_5 : wc.cell? ⟨gb233, 5, none⟩ = some (.int .i64 59) := (blk_cell BK233.out 5).trans rfl
                have hcz83_6 : wc.cell? ⟨gb233, 6, none⟩ = some (.bool t225) := (blk_cell BK233.out 6).trans rfl
                have hcz83_7 : wc.cell? ⟨gb233, 7, none⟩ = some (.int .i64 t226) := (blk_cell BK233.out 7).trans rfl
                have hfz83_0 := blk_frozen BK233.out 0
                have hfz83_1 := blk_frozen BK233.out 1
                have hfz83_2 := blk_frozen BK233.out 2
                have hfz83_3 := blk_frozen BK233.out 3
                have hfz83_4 := blk_frozen BK233.out 4
                have hfz83_5 := blk_frozen BK233.out 5
                have hfz83_6 := blk_frozen BK233.out 6
                have hfz83_7 := blk_frozen BK233.out 7
                go_wp2_with (first | (go_at_call 19; (with_reducible refine (impl_DateOk.calls t219 t220 t232 23 59 59 t225 t226 t237 _ A80.out).mono ?_); rintro e w84 ⟨rfl, hb⟩; have n0_ := Aside0.mk (blk_below (g := gb227) (o := .cells #[.int .i64 t219, .int .i64 t220, .int .i64 t221, .int .i64 t222, .int .i64 t223, .int .i64 t224, .bool t225, .int .i64 t226] 29 (0, 0)) (by (with_reducible repeat (first | refine blk_drewN ?_ _ | refine blk_drew ?_ | refine blk_alloc ?_ _)); exact BK227.out) hb); have n1_ := Aside0.mk (blk_below (g := gb233) (o := .cells #[.int .i64 t219, .int .i64 t220, .int .i64 t232, .int .i64 23, .int .i64 59, .int .i64 59, .bool t225, .int .i64 t226] 29 (0, 0)) (by (with_reducible repeat (first | refine blk_drewN ?_ _ | refine blk_drew ?_ | refine blk_alloc ?_ _)); exact BK233.out) hb); have n2_ := Aside0.mk (blk_below (g := gb234) (o := .cells #[.int .i64 x235000_26, .int .i64 x235001_26, .int .i64 1, .int .i64 0, .int .i64 0, .int .i64 0, .bool t225, .int .i64 t226] 29 (0, 0)) (by (with_reducible repeat (first | refine blk_drewN ?_ _ | refine blk_drew ?_ | refine blk_alloc ?_ _)); exact BK234.out) hb); have n3_ := Aside0.mk (below_step (by repeat (first | (with_reducible first | exact HB.out | apply below_alloc | apply pw_below_drewN | apply below_drew1 | refine below_set ?_ GE227.out | refine below_set ?_ GE233.out | refine below_set ?_ GE234.out) | exact HB.out)) hb); clear BK227; clear BK233; clear BK234; clear HB; have BK227 := n0_; have BK233 := n1_; have BK234 := n2_; have HB := n3_; clear n0_ n1_ n2_ n3_; (try clear hb); (try clear hb2); (try clear hk); (try clear hi)))
                go_meet
                case rel => exact ⟨_, (!t237), (by first | rfl | (simp; done) | (simp [*]; done)), H', ⟨by have := HJ5.out; have := HJ26.out; have := HK3.out; have := HJ58.out; first | omega | exact Nat.le_refl _⟩, ⟨by (with_reducible repeat (first | refine blk_drewN ?_ _ | refine blk_drew ?_ | refine blk_alloc ?_ _)); exact BK227.out⟩, ⟨by (with_reducible repeat (first | refine blk_drewN ?_ _ | refine blk_drew ?_ | refine blk_alloc ?_ _)); exact BK233.out⟩, ⟨by (with_reducible repeat (first | refine blk_drewN ?_ _ | refine blk_drew ?_ | refine blk_alloc ?_ _)); exact BK234.out⟩, ⟨by repeat (first | (with_reducible first | exact HB.out | apply below_alloc | apply pw_below_drewN | apply below_drew1 | refine below_set ?_ GE227.out | refine below_set ?_ GE233.out | refine below_set ?_ GE234.out) | exact HB.out)⟩⟩
             ·rw [if_neg c72] at H
              have c72b0 : (x7_3 == 365) = false := beq_eq_false_iff_ne.mpr c72
              have c72b1 : (x7_3 != 365) = true := bne_iff_ne.mpr c72
              (first | rw [c72b0] | (simp only [i64_w, i32_w]; rw [c72b0]) | skip)
              by_cases c85 : x9_58 = true
              ·subst c85
               have H1 : (if x7_3 = 366 then ((impl_DateOk.f t219 t220 t232 23 59 59 t225 t226).bind fun t238 => (laws_FnNextDay.j4 kj58 (!t238) t219 t220 t232 23 59 59 t225 t226 x235000_26 x235001_26 1 0 0 0 t225 t226)) else (laws_FnNextDay.j4 kj58 true t219 t220 t232 23 59 59 t225 t226 x235000_26 x235001_26 1 0 0 0 t225 t226)) = some r := by rw [if_pos rfl] at H; exact H
               clear H
               have H := H1
               clear H1
               by_cases c86 : x7_3 = 366
               ·rw [if_pos c86] at H
                have c86b0 : (x7_3 == 366) = true := beq_iff_eq.mpr c86
                have c86b1 : (x7_3 != 366) = false := bne_eq_false_iff_eq.mpr c86
                clear c86
                replace H := Option.bind_eq_some_iff.mp H
                obtain ⟨t238, A870, H⟩ := H
                replace H : (laws_FnNextDay.j4 kj58 (!t238) t219 t220 t232 23 59 59 t225 t226 x235000_26 x235001_26 1 0 0 0 t225 t226) = some r := H
                have A87 := Aside0.mk A870
                clear A870
                have H' := Aside0.mk H
                clear H
                have hnb88 := NB233_227.out
                have hnc88 := NB227_233.out
                have hnb89 := NB233_234.out
                have hnc89 := NB234_233.out
                have hcz90_0 : wc.cell? ⟨gb233, 0, none⟩ = some (.int .i64 t219) := (blk_cell BK233.out 0).trans rfl
                have hcz90_1 : wc.cell? ⟨gb233, 1, none⟩ = some (.int .i64 t220) := (blk_cell BK233.out 1).trans rfl
                have hcz90_2 : wc.cell? ⟨gb233, 2, none⟩ = some (.int .i64 t232) := (blk_cell BK233.out 2).trans rfl
                have hcz90_3 : wc.cell? ⟨gb233, 3, none⟩ = some (.int .i64 23) := (blk_cell BK233.out 3).trans rfl
                have hcz90_4 : wc.cell? ⟨gb233, 4, none⟩ = some (.int .i64 59) := (blk_cell BK233.out 4).trans rfl
                have hcz90_5 : wc.cell? ⟨gb233, 5, none⟩ = some (.int .i64 59) := (blk_cell BK233.out 5).trans rfl
                have hcz90_6 : wc.cell? ⟨gb233, 6, none⟩ = some (.bool t225) := (blk_cell BK233.out 6).trans rfl
                have hcz90_7 : wc.cell? ⟨gb233, 7, none⟩ = some (.int .i64 t226) := (blk_cell BK233.out 7).trans rfl
                have hfz90_0 := blk_frozen BK233.out 0
                have hfz90_1 := blk_frozen BK233.out 1
                have hfz90_2 := blk_frozen BK233.out 2
                have hfz90_3 := blk_frozen BK233.out 3
                have hfz90_4 := blk_frozen BK233.out 4
                have hfz90_5 := blk_frozen BK233.out 5
                have hfz90_6 := blk_frozen BK233.out 6
                have hfz90_7 := blk_frozen BK233.out 7
                go_wp2_with (first | (go_at_call 19; (with_reducible refine (impl_DateOk.calls t219 t220 t232 23 59 59 t225 t226 t238 _ A87.out).mono ?_); rintro e w91 ⟨rfl, hb⟩; have n0_ := Aside0.mk (blk_below (g := gb227) (o := .cells #[.int .i64 t219, .int .i64 t220, .int .i64 t221, .int .i64 t222, .int .i64 t223, .int .i64 t224, .bool t225, .int .i64 t226] 29 (0, 0)) (by (with_reducible repeat (first | refine blk_drewN ?_ _ | refine blk_drew ?_ | refine blk_alloc ?_ _)); exact BK227.out) hb); have n1_ := Aside0.mk (blk_below (g := gb233) (o := .cells #[.int .i64 t219, .int .i64 t220, .int .i64 t232, .int .i64 23, .int .i64 59, .int .i64 59, .bool t225, .int .i64 t226] 29 (0, 0)) (by (with_reducible repeat (first | refine blk_drewN ?_ _ | refine blk_drew ?_ | refine blk_alloc ?_ _)); exact BK233.out) hb); have n2_ := Aside0.mk (blk_below (g := gb234) (o := .cells #[.int .i64 x235000_26, .int .i64 x235001_26, .int .i64 1, .int .i64 0, .int .i64 0, .int .i64 0, .bool t225, .int .i64 t226] 29 (0, 0)) (by (with_reducible repeat (first | refine blk_drewN ?_ _ | refine blk_drew ?_ | refine blk_alloc ?_ _)); exact BK234.out) hb); have n3_ := Aside0.mk (below_step (by repeat (first | (with_reducible first | exact HB.out | apply below_alloc | apply pw_below_drewN | apply below_drew1 | refine below_set ?_ GE227.out | refine below_set ?_ GE233.out | refine below_set ?_ GE234.out) | exact HB.out)) hb); clear BK227; clear BK233; clear BK234; clear HB; have BK227 := n0_; have BK233 := n1_; have BK234 := n2_; have HB := n3_; clear n0_ n1_ n2_ n3_; (try clear hb); (try clear hb2); (try clear hk); (try clear hi)))
                go_meet
                case rel => exact ⟨_, (!t238), (by first | rfl | (simp; done) | (simp [*]; done)), H', ⟨by have := HJ5.out; have := HJ26.out; have := HK3.out; have := HJ58.out; first | omega | exact Nat.le_refl _⟩, ⟨by (with_reducible repeat (first | refine blk_drewN ?_ _ | refine blk_drew ?_ | refine blk_alloc ?_ _)); exact BK227.out⟩, ⟨by (with_reducible repeat (first | refine blk_drewN ?_ _ | refine blk_drew ?_ | refine blk_alloc ?_ _)); exact BK233.out⟩, ⟨by (with_reducible repeat (first | refine blk_drewN ?_ _ | refine blk_drew ?_ | refine blk_alloc ?_ _)); exact BK234.out⟩, ⟨by repeat (first | (with_reducible first | exact HB.out | apply below_alloc | apply pw_below_drewN | apply below_drew1 | refine below_set ?_ GE227.out | refine below_set ?_ GE233.out | refine below_set ?_ GE234.out) | exact HB.out)⟩⟩
               ·rw [if_neg c86] at H
                have c86b0 : (x7_3 == 366) = false := beq_eq_false_iff_ne.mpr c86
                have c86b1 : (x7_3 != 366) = true := bne_iff_ne.mpr c86
                have H' := Aside0.mk H
                clear H
                go_wp2
                go_meet
                case rel => exact ⟨_, (true), (by first | rfl | (simp; done) | (simp [*]; done)), H', ⟨by have := HJ5.out; have := HJ26.out; have := HK3.out; have := HJ58.out; first | omega | exact Nat.le_refl _⟩, ⟨by (with_reducible repeat (first | refine blk_drewN ?_ _ | refine blk_drew ?_ | refine blk_alloc ?_ _)); exact BK227.out⟩, ⟨by (with_reducible repeat (first | refine blk_drewN ?_ _ | refine blk_drew ?_ | refine blk_alloc ?_ _)); exact BK233.out⟩, ⟨by (with_reducible repeat (first | refine blk_drewN ?_ _ | refine blk_drew ?_ | refine blk_alloc ?_ _)); exact BK234.out⟩, ⟨by repeat (first | (with_reducible first | exact HB.out | apply below_alloc | apply pw_below_drewN | apply below_drew1 | refine below_set ?_ GE227.out | refine below_set ?_ GE233.out | refine below_set ?_ GE234.out) | exact HB.out)⟩⟩
              ·replace c85 := Bool.eq_false_iff.mpr c85
               subst c85
               have H1 : (laws_FnNextDay.j4 kj58 true t219 t220 t232 23 59 59 t225 t226 x235000_26 x235001_26 1 0 0 0 t225 t226) = some r := by rw [if_neg (show ¬ (false = true) by decide)] at H; exact H
               clear H
               have H := H1
               clear H1
               have H' := Aside0.mk H
               clear H
               go_wp2
               go_meet
               case rel => exact ⟨_, (true), (by first | rfl | (simp; done) | (simp [*]; done)), H', ⟨by have := HJ5.out; have := HJ26.out; have := HK3.out; have := HJ58.out; first | omega | exact Nat.le_refl _⟩, ⟨by (with_reducible repeat (first | refine blk_drewN ?_ _ | refine blk_drew ?_ | refine blk_alloc ?_ _)); exact BK227.out⟩, ⟨by (with_reducible repeat (first | refine blk_drewN ?_ _ | refine blk_drew ?_ | refine blk_alloc ?_ _)); exact BK233.out⟩, ⟨by (with_reducible repeat (first | refine blk_drewN ?_ _ | refine blk_drew ?_ | refine blk_alloc ?_ _)); exact BK234.out⟩, ⟨by repeat (first | (with_reducible first | exact HB.out | apply below_alloc | apply pw_below_drewN | apply below_drew1 | refine below_set ?_ GE227.out | refine below_set ?_ GE233.out | refine below_set ?_ GE234.out) | exact HB.out)⟩⟩
            case rest =>
             clear HC71
             try clear c1
             try clear c2
             try clear p2
             try clear c3
             try clear c4
             try clear c5
             try clear c6
             try clear p6
             try clear c7
             try clear c8
             try clear c9
             try clear c14
             try clear c14b0
             try clear c14b1
             try clear c16
             try clear c20
             try clear c21
             try clear c22
             try clear c24
             try clear c25
             try clear c40
             try clear c43
             try clear c44
             try clear c48
             try clear c48b0
             try clear c48b1
             try clear c49
             try clear c50
             try clear c52
             try clear c54
             try clear c54b0
             try clear c56
             try clear c57
             try clear c60
             try clear c60b0
             try clear c60b1
             try clear c61
             try clear c61b0
             try clear c61b1
             try clear c62
             try clear c63
             try clear p64
             try clear c65
             try clear c66
             try clear c68
             try clear c69
             try clear c72
             try clear c72b0
             try clear c72b1
             try clear c73
             try clear c73b0
             try clear c73b1
             try clear c75
             try clear c76
             try clear c79
             try clear c81
             try clear c82
             try clear c85
             try clear c86
             try clear c86b0
             try clear c86b1
             try clear c88
             try clear c89
             try clear hcz11_0
             try clear hcz11_1
             try clear hcz11_2
             try clear hcz11_3
             try clear hcz11_4
             try clear hcz11_5
             try clear hcz11_6
             try clear hcz11_7
             try clear hcz16_0
             try clear hcz16_1
             try clear hcz16_2
             try clear hcz16_3
             try clear hcz16_4
             try clear hcz16_5
             try clear hcz16_6
             try clear hcz16_7
             try clear hcz18_0
             try clear hcz18_1
             try clear hcz18_2
             try clear hcz18_3
             try clear hcz18_4
             try clear hcz18_5
             try clear hcz18_6
             try clear hcz18_7
             try clear hcz20_0
             try clear hcz20_1
             try clear hcz20_2
             try clear hcz20_3
             try clear hcz20_4
             try clear hcz20_5
             try clear hcz20_6
             try clear hcz20_7
             try clear hcz24_0
             try clear hcz24_1
             try clear hcz24_2
             try clear hcz24_3
             try clear hcz24_4
             try clear hcz24_5
             try clear hcz24_6
             try clear hcz24_7
             try clear hcz41_0
             try clear hcz41_1
             try clear hcz41_2
             try clear hcz41_3
             try clear hcz41_4
             try clear hcz41_5
             try clear hcz41_6
             try clear hcz41_7
             try clear hcz45_0
             try clear hcz45_1
             try clear hcz45_2
             try clear hcz45_3
             try clear hcz45_4
             try clear hcz45_5
             try clear hcz45_6
             try clear hcz45_7
             try clear hcz47_0
             try clear hcz47_1
             try clear hcz47_2
             try clear hcz47_3
             try clear hcz47_4
             try clear hcz47_5
             try clear hcz47_6
             try clear hcz47_7
             try clear hcz51_0
             try clear hcz51_1
             try clear hcz51_2
             try clear hcz51_3
             try clear hcz51_4
             try clear hcz51_5
             try clear hcz51_6
             try clear hcz51_7
             try clear hcz53_0
             try clear hcz53_1
             try clear hcz53_2
             try clear hcz53_3
             try clear hcz53_4
             try clear hcz53_5
             try clear hcz53_6
             try clear hcz53_7
             try clear hcz58_0
             try clear hcz58_1
             try clear hcz58_2
             try clear hcz58_3
             try clear hcz58_4
             try clear hcz58_5
             try clear hcz58_6
             try clear hcz58_7
             try clear hcz64_0
             try clear hcz64_1
             try clear hcz64_2
             try clear hcz64_3
             try clear hcz64_4
             try clear hcz64_5
             try clear hcz64_6
             try clear hcz64_7
             try clear hcz67_0
             try clear hcz67_1
             try clear hcz67_2
             try clear hcz67_3
             try clear hcz67_4
             try clear hcz67_5
             try clear hcz67_6
             try clear hcz67_7
             try clear hcz70_0
             try clear hcz70_1
             try clear hcz70_2
             try clear hcz70_3
             try clear hcz70_4
             try clear hcz70_5
             try clear hcz70_6
             try clear hcz70_7
             try clear hcz77_0
             try clear hcz77_1
             try clear hcz77_2
             try clear hcz77_3
             try clear hcz77_4
             try clear hcz77_5
             try clear hcz77_6
             try clear hcz77_7
             try clear hcz83_0
             try clear hcz83_1
             try clear hcz83_2
             try clear hcz83_3
             try clear hcz83_4
             try clear hcz83_5
             try clear hcz83_6
             try clear hcz83_7
             try clear hcz90_0
             try clear hcz90_1
             try clear hcz90_2
             try clear hcz90_3
             try clear hcz90_4
             try clear hcz90_5
             try clear hcz90_6
             try clear hcz90_7
             try clear hcz9_0
             try clear hcz9_1
             try clear hcz9_2
             try clear hcz9_3
             try clear hcz9_4
             try clear hcz9_5
             try clear hcz9_6
             try clear hcz9_7
             try clear hfz11_0
             try clear hfz11_1
             try clear hfz11_2
             try clear hfz11_3
             try clear hfz11_4
             try clear hfz11_5
             try clear hfz11_6
             try clear hfz11_7
             try clear hfz16_0
             try clear hfz16_1
             try clear hfz16_2
             try clear hfz16_3
             try clear hfz16_4
             try clear hfz16_5
             try clear hfz16_6
             try clear hfz16_7
             try clear hfz18_0
             try clear hfz18_1
             try clear hfz18_2
             try clear hfz18_3
             try clear hfz18_4
             try clear hfz18_5
             try clear hfz18_6
             try clear hfz18_7
             try clear hfz20_0
             try clear hfz20_1
             try clear hfz20_2
             try clear hfz20_3
             try clear hfz20_4
             try clear hfz20_5
             try clear hfz20_6
             try clear hfz20_7
             try clear hfz24_0
             try clear hfz24_1
             try clear hfz24_2
             try clear hfz24_3
             try clear hfz24_4
             try clear hfz24_5
             try clear hfz24_6
             try clear hfz24_7
             try clear hfz41_0
             try clear hfz41_1
             try clear hfz41_2
             try clear hfz41_3
             try clear hfz41_4
             try clear hfz41_5
             try clear hfz41_6
             try clear hfz41_7
             try clear hfz45_0
             try clear hfz45_1
             try clear hfz45_2
             try clear hfz45_3
             try clear hfz45_4
             try clear hfz45_5
             try clear hfz45_6
             try clear hfz45_7
             try clear hfz47_0
             try clear hfz47_1
             try clear hfz47_2
             try clear hfz47_3
             try clear hfz47_4
             try clear hfz47_5
             try clear hfz47_6
             try clear hfz47_7
             try clear hfz51_0
             try clear hfz51_1
             try clear hfz51_2
             try clear hfz51_3
             try clear hfz51_4
             try clear hfz51_5
             try clear hfz51_6
             try clear hfz51_7
             try clear hfz53_0
             try clear hfz53_1
             try clear hfz53_2
             try clear hfz53_3
             try clear hfz53_4
             try clear hfz53_5
             try clear hfz53_6
             try clear hfz53_7
             try clear hfz58_0
             try clear hfz58_1
             try clear hfz58_2
             try clear hfz58_3
             try clear hfz58_4
             try clear hfz58_5
             try clear hfz58_6
             try clear hfz58_7
             try clear hfz64_0
             try clear hfz64_1
             try clear hfz64_2
             try clear hfz64_3
             try clear hfz64_4
             try clear hfz64_5
             try clear hfz64_6
             try clear hfz64_7
             try clear hfz67_0
             try clear hfz67_1
             try clear hfz67_2
             try clear hfz67_3
             try clear hfz67_4
             try clear hfz67_5
             try clear hfz67_6
             try clear hfz67_7
             try clear hfz70_0
             try clear hfz70_1
             try clear hfz70_2
             try clear hfz70_3
             try clear hfz70_4
             try clear hfz70_5
             try clear hfz70_6
             try clear hfz70_7
             try clear hfz77_0
             try clear hfz77_1
             try clear hfz77_2
             try clear hfz77_3
             try clear hfz77_4
             try clear hfz77_5
             try clear hfz77_6
             try clear hfz77_7
             try clear hfz83_0
             try clear hfz83_1
             try clear hfz83_2
             try clear hfz83_3
             try clear hfz83_4
             try clear hfz83_5
             try clear hfz83_6
             try clear hfz83_7
             try clear hfz90_0
             try clear hfz90_1
             try clear hfz90_2
             try clear hfz90_3
             try clear hfz90_4
             try clear hfz90_5
             try clear hfz90_6
             try clear hfz90_7
             try clear hfz9_0
             try clear hfz9_1
             try clear hfz9_2
             try clear hfz9_3
             try clear hfz9_4
             try clear hfz9_5
             try clear hfz9_6
             try clear hfz9_7
             try clear p2
             try clear p6
             try clear p64
             obtain ⟨kq, x104_70, rfl, HA, HJ70, BK227, BK233, BK234, HB⟩ := hcut
             cases kq with
             | zero => exact absurd HA.out (by simp [laws_FnNextDay.j4])
             | succ kj70 =>
              have H := HA.out
              clear HA
              simp only [laws_FnNextDay.j4] at H
              by_cases c92 : x104_70 = true
              ·subst c92
               have H1 : (some false) = some r := by rw [if_pos rfl] at H; exact H
               clear H
               have H := H1
               clear H1
               obtain rfl := Option.some.inj H
               go_wp2
               go_ret
               exact ⟨by first | rfl | (simp [*] <;> rfl), by repeat (first | (with_reducible first | exact HB.out | apply below_alloc | apply pw_below_drewN | apply below_drew1 | refine below_set ?_ GE227.out | refine below_set ?_ GE233.out | refine below_set ?_ GE234.out) | exact HB.out)⟩
              ·replace c92 := Bool.eq_false_iff.mpr c92
               subst c92
               have H1 : (if x235000_26 > 9999 then (some true) else ((impl_SecondsOf.f kj70 x235000_26 x235001_26 1 0 0 0 t225 t226).bind fun t239 => ((impl_SecondsOf.f kj70 t219 t220 t232 23 59 59 t225 t226).bind fun t240 => (some (t239 == (wrap64 (t240 + 1))))))) = some r := by rw [if_neg (show ¬ (false = true) by decide)] at H; exact H
               clear H
               have H := H1
               clear H1
               by_cases c93 : x235000_26 > 9999
               ·rw [if_pos c93] at H
                have c93b0 : decide (9999 < x235000_26) = true := decide_eq_true c93
                clear c93
                obtain rfl := Option.some.inj H
                try go_wp2
                have n0_ := Aside0.mk (blk_drew BK227.out)
                have n1_ := Aside0.mk (blk_drew BK233.out)
                have n2_ := Aside0.mk (blk_drew BK234.out)
                have n3_ := Aside0.mk (below_drew1 HB.out)
                clear BK227
                clear BK233
                clear BK234
                clear HB
                have BK227 := n0_
                have BK233 := n1_
                have BK234 := n2_
                have HB := n3_
                clear n0_ n1_ n2_ n3_
                refine start_ (n := 12) (S := fun w' => w'.cell? ⟨gb234, 0, none⟩ = some (.int .i64 x235000_26) ∧ w'.cell? ⟨gb234, 1, none⟩ = some (.int .i64 x235001_26) ∧ w'.cell? ⟨gb234, 2, none⟩ = some (.int .i64 1) ∧ w'.cell? ⟨gb234, 3, none⟩ = some (.int .i64 0) ∧ w'.cell? ⟨gb234, 4, none⟩ = some (.int .i64 0) ∧ w'.cell? ⟨gb234, 5, none⟩ = some (.int .i64 0) ∧ w'.cell? ⟨gb234, 6, none⟩ = some (.bool t225) ∧ w'.cell? ⟨gb234, 7, none⟩ = some (.int .i64 t226)) (ds := []) #[false, false, false, false, false, false, false, false, false, false, false, false] (by kernel_rfl) rfl rfl ⟨(blk_cell BK234.out 0).trans rfl, (blk_cell BK234.out 1).trans rfl, (blk_cell BK234.out 2).trans rfl, (blk_cell BK234.out 3).trans rfl, (blk_cell BK234.out 4).trans rfl, (blk_cell BK234.out 5).trans rfl, (blk_cell BK234.out 6).trans rfl, (blk_cell BK234.out 7).trans rfl⟩ (fun hHeld => ?_); refine with_tabW laws_FnNextDay.tab20 laws_FnNextDay.bits20 (fun HT_ HW_ => ?_)
                generalize wc.drew = w94 at BK227 BK233 BK234 HB hHeld ⊢
                refine pure_ (i := 0) (N := some 105) (v := ?_) (a' := ?_) #[true, false, false, false, false, false, false, false, false, false, false, false] rfl rfl (any_of HT_.out (by kernel_rfl)) (fun _ _ _ h => h) (Or.inl ⟨by rfl, ?_⟩) ?_ ?_
                rotate_left
                ·intro w'
                 go_simp
                 with_reducible rfl
                rotate_left
                ·simp only [Act.put, List.setIfInBounds_toArray, List.set_cons_zero, List.set_cons_succ, i64_w, i32_w]
                 rfl
                refine take_ (i := 1) (N := some 106) (v := ?_) (a' := ?_) #[true, true, false, false, false, false, false, false, false, false, false, false] rfl rfl (take_ofW HT_.out HW_.out (by kernel_rfl)) (fun _ _ _ h => h) (Or.inl ⟨by rfl, ?_⟩) hHeld ?_ ?_
                rotate_left
                ·rintro w' ⟨s0, s1, s2, s3, s4, s5, s6, s7⟩
                 go_simp
                 with_reducible rfl
                rotate_left
                ·simp only [Act.put, List.setIfInBounds_toArray, List.set_cons_zero, List.set_cons_succ, i64_w, i32_w]
                 rfl
                refine pure_ (i := 2) (N := some 107) (v := ?_) (a' := ?_) #[true, true, true, false, false, false, false, false, false, false, false, false] rfl rfl (any_of HT_.out (by kernel_rfl)) (fun _ _ _ h => h) (Or.inl ⟨by rfl, ?_⟩) ?_ ?_
                rotate_left
                ·intro w'
                 go_simp
                 with_reducible rfl
                rotate_left
                ·simp only [Act.put, List.setIfInBounds_toArray, List.set_cons_zero, List.set_cons_succ, i64_w, i32_w]
                 rfl
                refine pure_ (i := 3) (N := some 108) (v := ?_) (a' := ?_) #[true, true, true, true, false, false, false, false, false, false, false, false] rfl rfl (any_of HT_.out (by kernel_rfl)) (fun _ _ _ h => h) (Or.inl ⟨by rfl, ?_⟩) ?_ ?_
                rotate_left
                ·intro w'
                 go_simp
                 with_reducible rfl
                rotate_left
                ·simp only [Act.put, List.setIfInBounds_toArray, List.set_cons_zero, List.set_cons_succ, i64_w, i32_w]
                 rfl
                refine pure_ (i := 4) (N := some 109) (v := undef) (a' := ?_) #[true, true, true, true, true, false, false, false, false, false, false, false] rfl rfl (any_of HT_.out (by kernel_rfl)) (fun _ _ _ h => h) (Or.inr ⟨by rfl, rfl⟩) ?_ ?_
                rotate_left
                ·simp only [Act.put, List.setIfInBounds_toArray, List.set_cons_zero, List.set_cons_succ, i64_w, i32_w]
                 rfl
                refine pure_ (i := 5) (N := some 110) (v := undef) (a' := ?_) #[true, true, true, true, true, true, false, false, false, false, false, false] rfl rfl (any_of HT_.out (by kernel_rfl)) (fun _ _ _ h => h) (Or.inr ⟨by rfl, rfl⟩) ?_ ?_
                rotate_left
                ·simp only [Act.put, List.setIfInBounds_toArray, List.set_cons_zero, List.set_cons_succ, i64_w, i32_w]
                 rfl
                refine pure_ (i := 6) (N := some 111) (v := undef) (a' := ?_) #[true, true, true, true, true, true, true, false, false, false, false, false] rfl rfl (any_of HT_.out (by kernel_rfl)) (fun _ _ _ h => h) (Or.inr ⟨by rfl, rfl⟩) ?_ ?_
                rotate_left
                ·simp only [Act.put, List.setIfInBounds_toArray, List.set_cons_zero, List.set_cons_succ, i64_w, i32_w]
                 rfl
                refine pure_ (i := 7) (N := some 112) (v := undef) (a' := ?_) #[true, true, true, true, true, true, true, true, false, false, false, false] rfl rfl (any_of HT_.out (by kernel_rfl)) (fun _ _ _ h => h) (Or.inr ⟨by rfl, rfl⟩) ?_ ?_
                rotate_left
                ·simp only [Act.put, List.setIfInBounds_toArray, List.set_cons_zero, List.set_cons_succ, i64_w, i32_w]
                 rfl
                refine pure_ (i := 8) (N := some 113) (v := undef) (a' := ?_) #[true, true, true, true, true, true, true, true, true, false, false, false] rfl rfl (any_of HT_.out (by kernel_rfl)) (fun _ _ _ h => h) (Or.inr ⟨by rfl, rfl⟩) ?_ ?_
                rotate_left
                ·simp only [Act.put, List.setIfInBounds_toArray, List.set_cons_zero, List.set_cons_succ, i64_w, i32_w]
                 rfl
                refine pure_ (i := 9) (N := some 114) (v := undef) (a' := ?_) #[true, true, true, true, true, true, true, true, true, true, false, false] rfl rfl (any_of HT_.out (by kernel_rfl)) (fun _ _ _ h => h) (Or.inr ⟨by rfl, rfl⟩) ?_ ?_
                rotate_left
                ·simp only [Act.put, List.setIfInBounds_toArray, List.set_cons_zero, List.set_cons_succ, i64_w, i32_w]
                 rfl
                refine pure_ (i := 10) (N := some 115) (v := ?_) (a' := ?_) #[true, true, true, true, true, true, true, true, true, true, true, false] rfl rfl (any_of HT_.out (by kernel_rfl)) (fun _ _ _ h => h) (Or.inl ⟨by rfl, ?_⟩) ?_ ?_
                rotate_left
                ·intro w'
                 go_simp
                 with_reducible rfl
                rotate_left
                ·simp only [Act.put, List.setIfInBounds_toArray, List.set_cons_zero, List.set_cons_succ, i64_w, i32_w]
                 rfl
                refine pure_ (i := 11) (N := some 2) (v := ?_) (a' := ?_) #[true, true, true, true, true, true, true, true, true, true, true, true] rfl rfl (any_of HT_.out (by kernel_rfl)) (fun _ _ _ h => h) (Or.inl ⟨by rfl, ?_⟩) ?_ ?_
                rotate_left
                ·intro w'
                 go_simp
                 with_reducible rfl
                rotate_left
                ·simp only [Act.put, List.setIfInBounds_toArray, List.set_cons_zero, List.set_cons_succ, i64_w, i32_w]
                 rfl
                refine done_ (done_of HT_.out (by kernel_rfl)) ?_
                try go_wp2
                go_ret
                exact ⟨by first | rfl | (simp [*] <;> rfl), by repeat (first | (with_reducible first | exact HB.out | apply below_alloc | apply pw_below_drewN | apply below_drew1 | refine below_set ?_ GE227.out | refine below_set ?_ GE233.out | refine below_set ?_ GE234.out) | exact HB.out)⟩
               ·rw [if_neg c93] at H
                have c93b0 : decide (9999 < x235000_26) = false := decide_eq_false c93
                clear c93
                replace H := Option.bind_eq_some_iff.mp H
                obtain ⟨t239, A950, H⟩ := H
                replace H : ((impl_SecondsOf.f kj70 t219 t220 t232 23 59 59 t225 t226).bind fun t240 => (some (t239 == (wrap64 (t240 + 1))))) = some r := H
                have A95 := Aside0.mk A950
                clear A950
                replace H := Option.bind_eq_some_iff.mp H
                obtain ⟨t240, A960, H⟩ := H
                replace H : (some (t239 == (wrap64 (t240 + 1)))) = some r := H
                have A96 := Aside0.mk A960
                clear A960
                obtain rfl := Option.some.inj H
                try go_wp2
                have n0_ := Aside0.mk (blk_drew BK227.out)
                have n1_ := Aside0.mk (blk_drew BK233.out)
                have n2_ := Aside0.mk (blk_drew BK234.out)
                have n3_ := Aside0.mk (below_drew1 HB.out)
                clear BK227
                clear BK233
                clear BK234
                clear HB
                have BK227 := n0_
                have BK233 := n1_
                have BK234 := n2_
                have HB := n3_
                clear n0_ n1_ n2_ n3_
                refine start_ (n := 12) (S := fun w' => w'.cell? ⟨gb234, 0, none⟩ = some (.int .i64 x235000_26) ∧ w'.cell? ⟨gb234, 1, none⟩ = some (.int .i64 x235001_26) ∧ w'.cell? ⟨gb234, 2, none⟩ = some (.int .i64 1) ∧ w'.cell? ⟨gb234, 3, none⟩ = some (.int .i64 0) ∧ w'.cell? ⟨gb234, 4, none⟩ = some (.int .i64 0) ∧ w'.cell? ⟨gb234, 5, none⟩ = some (.int .i64 0) ∧ w'.cell? ⟨gb234, 6, none⟩ = some (.bool t225) ∧ w'.cell? ⟨gb234, 7, none⟩ = some (.int .i64 t226) ∧ w'.cell? ⟨gb233, 0, none⟩ = some (.int .i64 t219) ∧ w'.cell? ⟨gb233, 1, none⟩ = some (.int .i64 t220) ∧ w'.cell? ⟨gb233, 2, none⟩ = some (.int .i64 t232) ∧ w'.cell? ⟨gb233, 3, none⟩ = some (.int .i64 23) ∧ w'.cell? ⟨gb233, 4, none⟩ = some (.int .i64 59) ∧ w'.cell? ⟨gb233, 5, none⟩ = some (.int .i64 59) ∧ w'.cell? ⟨gb233, 6, none⟩ = some (.bool t225) ∧ w'.cell? ⟨gb233, 7, none⟩ = some (.int .i64 t226)) (ds := []) #[false, false, false, false, false, false, false, false, false, false, false, false] (by kernel_rfl) rfl rfl ⟨(blk_cell BK234.out 0).trans rfl, (blk_cell BK234.out 1).trans rfl, (blk_cell BK234.out 2).trans rfl, (blk_cell BK234.out 3).trans rfl, (blk_cell BK234.out 4).trans rfl, (blk_cell BK234.out 5).trans rfl, (blk_cell BK234.out 6).trans rfl, (blk_cell BK234.out 7).trans rfl, (blk_cell BK233.out 0).trans rfl, (blk_cell BK233.out 1).trans rfl, (blk_cell BK233.out 2).trans rfl, (blk_cell BK233.out 3).trans rfl, (blk_cell BK233.out 4).trans rfl, (blk_cell BK233.out 5).trans rfl, (blk_cell BK233.out 6).trans rfl, (blk_cell BK233.out 7).trans rfl⟩ (fun hHeld => ?_); refine with_tabW laws_FnNextDay.tab20 laws_FnNextDay.bits20 (fun HT_ HW_ => ?_)
                generalize wc.drew = w97 at BK227 BK233 BK234 HB hHeld ⊢
                refine pure_ (i := 0) (N := some 105) (v := ?_) (a' := ?_) #[true, false, false, false, false, false, false, false, false, false, false, false] rfl rfl (any_of HT_.out (by kernel_rfl)) (fun _ _ _ h => h) (Or.inl ⟨by rfl, ?_⟩) ?_ ?_
                rotate_left
                ·intro w'
                 go_simp
                 with_reducible rfl
                rotate_left
                ·simp only [Act.put, List.setIfInBounds_toArray, List.set_cons_zero, List.set_cons_succ, i64_w, i32_w]
                 rfl
                refine take_ (i := 1) (N := some 106) (v := ?_) (a' := ?_) #[true, true, false, false, false, false, false, false, false, false, false, false] rfl rfl (take_ofW HT_.out HW_.out (by kernel_rfl)) (fun _ _ _ h => h) (Or.inl ⟨by rfl, ?_⟩) hHeld ?_ ?_
                rotate_left
                ·rintro w' ⟨s0, s1, s2, s3, s4, s5, s6, s7, s8, s9, s10, s11, s12, s13, s14, s15⟩
                 go_simp
                 with_reducible rfl
                rotate_left
                ·simp only [Act.put, List.setIfInBounds_toArray, List.set_cons_zero, List.set_cons_succ, i64_w, i32_w]
                 rfl
                refine pure_ (i := 2) (N := some 107) (v := ?_) (a' := ?_) #[true, true, true, false, false, false, false, false, false, false, false, false] rfl rfl (any_of HT_.out (by kernel_rfl)) (fun _ _ _ h => h) (Or.inl ⟨by rfl, ?_⟩) ?_ ?_
                rotate_left
                ·intro w'
                 go_simp
                 with_reducible rfl
                rotate_left
                ·simp only [Act.put, List.setIfInBounds_toArray, List.set_cons_zero, List.set_cons_succ, i64_w, i32_w]
                 rfl
                refine pure_ (i := 3) (N := some 108) (v := ?_) (a' := ?_) #[true, true, true, true, false, false, false, false, false, false, false, false] rfl rfl (any_of HT_.out (by kernel_rfl)) (fun _ _ _ h => h) (Or.inl ⟨by rfl, ?_⟩) ?_ ?_
                rotate_left
                ·intro w'
                 go_simp
                 with_reducible rfl
                rotate_left
                ·simp only [Act.put, List.setIfInBounds_toArray, List.set_cons_zero, List.set_cons_succ, i64_w, i32_w]
                 rfl
                refine take_ (i := 4) (N := some 109) (v := ?_) (a' := ?_) #[true, true, true, true, true, false, false, false, false, false, false, false] rfl rfl (take_ofW HT_.out HW_.out (by kernel_rfl)) (fun _ _ _ h => h) (Or.inl ⟨by rfl, ?_⟩) hHeld ?_ ?_
                rotate_left
                ·rintro w' ⟨s0, s1, s2, s3, s4, s5, s6, s7, s8, s9, s10, s11, s12, s13, s14, s15⟩
                 go_simp
                 with_reducible rfl
                rotate_left
                ·simp only [Act.put, List.setIfInBounds_toArray, List.set_cons_zero, List.set_cons_succ, i64_w, i32_w]
                 rfl
                refine take_ (i := 6) (N := some 111) (v := ?_) (a' := ?_) #[true, true, true, true, true, false, true, false, false, false, false, false] rfl rfl (take_ofW HT_.out HW_.out (by kernel_rfl)) (fun _ _ _ h => h) (Or.inl ⟨by rfl, ?_⟩) hHeld ?_ ?_
                rotate_left
                ·rintro w' ⟨s0, s1, s2, s3, s4, s5, s6, s7, s8, s9, s10, s11, s12, s13, s14, s15⟩
                 go_simp
                 with_reducible rfl
                rotate_left
                ·simp only [Act.put, List.setIfInBounds_toArray, List.set_cons_zero, List.set_cons_succ, i64_w, i32_w]
                 rfl
                refine one_ (i := 5) (N := some 110) #[true, true, true, true, true, true, true, false, false, false, false, false] rfl rfl (one_of HT_.out (by kernel_rfl)) (by decide) (fun K hK => ?_)
                refine goes_ Try.func21 (by kernel_rfl) rfl #[.agg #[.int .i64 x235000_26, .int .i64 x235001_26, .int .i64 1, .int .i64 0, .int .i64 0, .int .i64 0, .bool t225, .int .i64 t226]] (by rfl) rfl rfl (by (try simp only [List.map_toArray, List.map_cons, List.map_nil]); first | done | rfl | (simp only [List.length_drop, List.length_take]; rfl)) ?_
                with_reducible refine (impl_SecondsOf.calls kj70 x235000_26 x235001_26 1 0 0 0 t225 t226 t239 _ A95.out).mono ?_
                rintro e w98 ⟨rfl, hb⟩
                refine ⟨_, rfl, ?_⟩
                have n0_ := Aside0.mk (blk_below (g := gb227) (o := .cells #[.int .i64 t219, .int .i64 t220, .int .i64 t221, .int .i64 t222, .int .i64 t223, .int .i64 t224, .bool t225, .int .i64 t226] 29 (0, 0)) (by (with_reducible repeat (first | refine blk_drewN ?_ _ | refine blk_drew ?_ | refine blk_alloc ?_ _)); exact BK227.out) hb)
                have n1_ := Aside0.mk (blk_below (g := gb233) (o := .cells #[.int .i64 t219, .int .i64 t220, .int .i64 t232, .int .i64 23, .int .i64 59, .int .i64 59, .bool t225, .int .i64 t226] 29 (0, 0)) (by (with_reducible repeat (first | refine blk_drewN ?_ _ | refine blk_drew ?_ | refine blk_alloc ?_ _)); exact BK233.out) hb)
                have n2_ := Aside0.mk (blk_below (g := gb234) (o := .cells #[.int .i64 x235000_26, .int .i64 x235001_26, .int .i64 1, .int .i64 0, .int .i64 0, .int .i64 0, .bool t225, .int .i64 t226] 29 (0, 0)) (by (with_reducible repeat (first | refine blk_drewN ?_ _ | refine blk_drew ?_ | refine blk_alloc ?_ _)); exact BK234.out) hb)
                have n3_ := Aside0.mk (below_step (by repeat (first | (with_reducible first | exact HB.out | apply below_alloc | apply pw_below_drewN | apply below_drew1 | refine below_set ?_ GE227.out | refine below_set ?_ GE233.out | refine below_set ?_ GE234.out) | exact HB.out)) hb)
                clear BK227
                clear BK233
                clear BK234
                clear HB
                have BK227 := n0_
                have BK233 := n1_
                have BK234 := n2_
                have HB := n3_
                clear n0_ n1_ n2_ n3_
                (try clear hb)
                (try clear hb2)
                (try clear hk)
                (try clear hi)
                refine hK.out _ _ ⟨(blk_cell BK234.out 0).trans rfl, (blk_cell BK234.out 1).trans rfl, (blk_cell BK234.out 2).trans rfl, (blk_cell BK234.out 3).trans rfl, (blk_cell BK234.out 4).trans rfl, (blk_cell BK234.out 5).trans rfl, (blk_cell BK234.out 6).trans rfl, (blk_cell BK234.out 7).trans rfl, (blk_cell BK233.out 0).trans rfl, (blk_cell BK233.out 1).trans rfl, (blk_cell BK233.out 2).trans rfl, (blk_cell BK233.out 3).trans rfl, (blk_cell BK233.out 4).trans rfl, (blk_cell BK233.out 5).trans rfl, (blk_cell BK233.out 6).trans rfl, (blk_cell BK233.out 7).trans rfl⟩ (fun hHeld => ?_)
                clear hK K
                refine norm_ (a' := ?_) ?_ ?_
                rotate_left
                ·show Act.put _ (some 110) _ = _
                 simp only [Act.put, List.setIfInBounds_toArray, List.set_cons_zero, List.set_cons_succ, i64_w, i32_w]
                 rfl
                refine one_ (i := 7) (N := some 112) #[true, true, true, true, true, true, true, true, false, false, false, false] rfl rfl (one_of HT_.out (by kernel_rfl)) (by decide) (fun K hK => ?_)
                refine goes_ Try.func21 (by kernel_rfl) rfl #[.agg #[.int .i64 t219, .int .i64 t220, .int .i64 t232, .int .i64 23, .int .i64 59, .int .i64 59, .bool t225, .int .i64 t226]] (by rfl) rfl rfl (by (try simp only [List.map_toArray, List.map_cons, List.map_nil]); first | done | rfl | (simp only [List.length_drop, List.length_take]; rfl)) ?_
                with_reducible refine (impl_SecondsOf.calls kj70 t219 t220 t232 23 59 59 t225 t226 t240 _ A96.out).mono ?_
                rintro e w99 ⟨rfl, hb⟩
                refine ⟨_, rfl, ?_⟩
                have n0_ := Aside0.mk (blk_below (g := gb227) (o := .cells #[.int .i64 t219, .int .i64 t220, .int .i64 t221, .int .i64 t222, .int .i64 t223, .int .i64 t224, .bool t225, .int .i64 t226] 29 (0, 0)) (by (with_reducible repeat (first | refine blk_drewN ?_ _ | refine blk_drew ?_ | refine blk_alloc ?_ _)); exact BK227.out) hb)
                have n1_ := Aside0.mk (blk_below (g := gb233) (o := .cells #[.int .i64 t219, .int .i64 t220, .int .i64 t232, .int .i64 23, .int .i64 59, .int .i64 59, .bool t225, .int .i64 t226] 29 (0, 0)) (by (with_reducible repeat (first | refine blk_drewN ?_ _ | refine blk_drew ?_ | refine blk_alloc ?_ _)); exact BK233.out) hb)
                have n2_ := Aside0.mk (blk_below (g := gb234) (o := .cells #[.int .i64 x235000_26, .int .i64 x235001_26, .int .i64 1, .int .i64 0, .int .i64 0, .int .i64 0, .bool t225, .int .i64 t226] 29 (0, 0)) (by (with_reducible repeat (first | refine blk_drewN ?_ _ | refine blk_drew ?_ | refine blk_alloc ?_ _)); exact BK234.out) hb)
                have n3_ := Aside0.mk (below_step (by repeat (first | (with_reducible first | exact HB.out | apply below_alloc | apply pw_below_drewN | apply below_drew1 | refine below_set ?_ GE227.out | refine below_set ?_ GE233.out | refine below_set ?_ GE234.out) | exact HB.out)) hb)
                clear BK227
                clear BK233
                clear BK234
                clear HB
                have BK227 := n0_
                have BK233 := n1_
                have BK234 := n2_
                have HB := n3_
                clear n0_ n1_ n2_ n3_
                (try clear hb)
                (try clear hb2)
                (try clear hk)
                (try clear hi)
                refine hK.out _ _ ⟨(blk_cell BK234.out 0).trans rfl, (blk_cell BK234.out 1).trans rfl, (blk_cell BK234.out 2).trans rfl, (blk_cell BK234.out 3).trans rfl, (blk_cell BK234.out 4).trans rfl, (blk_cell BK234.out 5).trans rfl, (blk_cell BK234.out 6).trans rfl, (blk_cell BK234.out 7).trans rfl, (blk_cell BK233.out 0).trans rfl, (blk_cell BK233.out 1).trans rfl, (blk_cell BK233.out 2).trans rfl, (blk_cell BK233.out 3).trans rfl, (blk_cell BK233.out 4).trans rfl, (blk_cell BK233.out 5).trans rfl, (blk_cell BK233.out 6).trans rfl, (blk_cell BK233.out 7).trans rfl⟩ (fun hHeld => ?_)
                clear hK K
                refine norm_ (a' := ?_) ?_ ?_
                rotate_left
                ·show Act.put _ (some 112) _ = _
                 simp only [Act.put, List.setIfInBounds_toArray, List.set_cons_zero, List.set_cons_succ, i64_w, i32_w]
                 rfl
                refine pure_ (i := 8) (N := some 113) (v := ?_) (a' := ?_) #[true, true, true, true, true, true, true, true, true, false, false, false] rfl rfl (any_of HT_.out (by kernel_rfl)) (fun _ _ _ h => h) (Or.inl ⟨by rfl, ?_⟩) ?_ ?_
                rotate_left
                ·intro w'
                 go_simp
                 with_reducible rfl
                rotate_left
                ·simp only [Act.put, List.setIfInBounds_toArray, List.set_cons_zero, List.set_cons_succ, i64_w, i32_w]
                 rfl
                refine pure_ (i := 9) (N := some 114) (v := ?_) (a' := ?_) #[true, true, true, true, true, true, true, true, true, true, false, false] rfl rfl (any_of HT_.out (by kernel_rfl)) (fun _ _ _ h => h) (Or.inl ⟨by rfl, ?_⟩) ?_ ?_
                rotate_left
                ·intro w'
                 go_simp
                 with_reducible rfl
                rotate_left
                ·simp only [Act.put, List.setIfInBounds_toArray, List.set_cons_zero, List.set_cons_succ, i64_w, i32_w]
                 rfl
                refine pure_ (i := 10) (N := some 115) (v := ?_) (a' := ?_) #[true, true, true, true, true, true, true, true, true, true, true, false] rfl rfl (any_of HT_.out (by kernel_rfl)) (fun _ _ _ h => h) (Or.inl ⟨by rfl, ?_⟩) ?_ ?_
                rotate_left
                ·intro w'
                 go_simp
                 with_reducible rfl
                rotate_left
                ·simp only [Act.put, List.setIfInBounds_toArray, List.set_cons_zero, List.set_cons_succ, i64_w, i32_w]
                 rfl
                refine pure_ (i := 11) (N := some 2) (v := ?_) (a' := ?_) #[true, true, true, true, true, true, true, true, true, true, true, true] rfl rfl (any_of HT_.out (by kernel_rfl)) (fun _ _ _ h => h) (Or.inl ⟨by rfl, ?_⟩) ?_ ?_
                rotate_left
                ·intro w'
                 go_simp
                 with_reducible rfl
                rotate_left
                ·simp only [Act.put, List.setIfInBounds_toArray, List.set_cons_zero, List.set_cons_succ, i64_w, i32_w]
                 rfl
                refine done_ (done_of HT_.out (by kernel_rfl)) ?_
                try go_wp2
                go_ret
                exact ⟨by first | rfl | (simp [*] <;> rfl), by repeat (first | (with_reducible first | exact HB.out | apply below_alloc | apply pw_below_drewN | apply below_drew1 | refine below_set ?_ GE227.out | refine below_set ?_ GE233.out | refine below_set ?_ GE234.out) | exact HB.out)⟩

/-- THE ONE PURE STATEMENT of laws_FnNextDay: yours. -/
def laws_FnNextDay.Pure : Prop := ∀ (l0 : List Int), l0.length ≤ maxLen → l0.length * 1 ≤ 140737488351232 → (∀ x ∈ l0, (Lit.int .u8 x).wf = true) → ∃ k, laws_FnNextDay.f k l0 = some true
theorem laws_FnNextDay.walk (P : laws_FnNextDay.Pure) (a0 : Option Addr) (len0 cap0 : Nat) (z0 : List Int) (w : World) (w0 : (a0 = none ∧ len0 = 0 ∧ cap0 = 0 ∧ z0 = []) ∨ ∃ x, a0 = some x ∧ len0 ≤ cap0 ∧ cap0 ≤ maxLen ∧ z0.length = cap0 ∧ (∀ i, i < z0.length → w.cell? (x.add i) = some (.int .u8 (z0.getD i 0))) ∧ ∀ n ∈ z0, (Lit.int .u8 n).wf = true) (y0 : len0 * 1 ≤ 140737488351232) :
  Calls Try.prog 9 #[.slice a0 len0 cap0] w fun e w' => e = .returned (.bool true) ∧ Below w.heap.size w w' := by
 obtain ⟨l0, rfl, hr0, hm0, hw0, hc0⟩ := ReadsInt.ofRowC w0
 obtain ⟨k, h⟩ := P l0 hm0 y0 hw0
 refine (laws_FnNextDay.calls k _ _ l0 true w (Kd.C_of_reads (d := (0 : Int)) (h1 := fun _ => rfl) hr0) hc0 h).mono ?_
 rintro e w' ⟨rfl, hd⟩
 exact ⟨rfl, hd⟩

end Go.Proofs.Ytdfopjmokbcnlaa.PQ
