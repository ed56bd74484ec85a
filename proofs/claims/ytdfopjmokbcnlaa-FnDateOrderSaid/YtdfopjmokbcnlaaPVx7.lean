-- Printed by this session's pdrive.py over the kit's printer.
import Derived.Test.YtdfopjmokbcnlaaPVx0
import Derived.Test.YtdfopjmokbcnlaaPVx1
import Derived.Test.YtdfopjmokbcnlaaPVx2
import Derived.Test.YtdfopjmokbcnlaaPVx3
import Derived.Test.YtdfopjmokbcnlaaPVx6
namespace Go.Proofs.Ytdfopjmokbcnlaa.PV
open Go.RowKit Go.Proofs.YtdfopjmokbcnlaaW.PrintWords Go.Proofs.YtdfopjmokbcnlaaW.PrintLast Go.Proofs.YtdfopjmokbcnlaaW.PrintMore Go.Proofs.YtdfopjmokbcnlaaW.WordsB
attribute [local go_sem] max2_int min2_int max_two min_two max_three min_three max_four min_four   -- for this text's walks alone
set_option linter.unusedVariables false
set_option linter.unusedSimpArgs false

/-! ### laws_FnDateOrder: function 11 -/
def laws_FnDateOrder.j0 : Nat → Int → Int → Bool → Int → Int → Int → Int → Int → Int → Bool → Int → Int → Int → Int → Int → Int → Int → Bool → Int → Option (Bool)
 | 0, _, _, _, _, _, _, _, _, _, _, _, _, _, _, _, _, _, _, _ => none
 | k + 1, x5, x6, x30, x274000, x274001, x274002, x274003, x274004, x274005, x274006, x274007, x275000, x275001, x275002, x275003, x275004, x275005, x275006, x275007 => if x30 = true then ((spec_CompareDate.f k x274000 x274001 x274002 x274003 x274004 x274005 x274006 x274007 x275000 x275001 x275002 x275003 x275004 x275005 x275006 x275007).bind fun t278 => (if x5 = t278 then (some (x6 == x5)) else (some false))) else ((impl_SecondsOf.f k x274000 x274001 x274002 x274003 x274004 x274005 x274006 x274007).bind fun t279 => ((impl_SecondsOf.f k x275000 x275001 x275002 x275003 x275004 x275005 x275006 x275007).bind fun t280 => (if x6 = (wrap64 (-x5)) then (if x5 = (-1) then (if t279 < t280 then (if x5 = 1 then (if t279 > t280 then (if x5 = 0 then (if t279 = t280 then (if (x274006 != x275006) = true then (some true) else (if ((decide (t279 < t280)) == (x5 == (-1))) = true then (some ((decide (t279 > t280)) == (x5 == 1))) else (some false))) else (some false)) else (if (x274006 != x275006) = true then (some true) else (if ((decide (t279 < t280)) == (x5 == (-1))) = true then (some ((decide (t279 > t280)) == (x5 == 1))) else (some false)))) else (some false)) else (if x5 = 0 then (if t279 = t280 then (if (x274006 != x275006) = true then (some true) else (if ((decide (t279 < t280)) == (x5 == (-1))) = true then (some ((decide (t279 > t280)) == (x5 == 1))) else (some false))) else (some false)) else (if (x274006 != x275006) = true then (some true) else (if ((decide (t279 < t280)) == (x5 == (-1))) = true then (some ((decide (t279 > t280)) == (x5 == 1))) else (some false))))) else (some false)) else (if x5 = 1 then (if t279 > t280 then (if x5 = 0 then (if t279 = t280 then (if (x274006 != x275006) = true then (some true) else (if ((decide (t279 < t280)) == (x5 == (-1))) = true then (some ((decide (t279 > t280)) == (x5 == 1))) else (some false))) else (some false)) else (if (x274006 != x275006) = true then (some true) else (if ((decide (t279 < t280)) == (x5 == (-1))) = true then (some ((decide (t279 > t280)) == (x5 == 1))) else (some false)))) else (some false)) else (if x5 = 0 then (if t279 = t280 then (if (x274006 != x275006) = true then (some true) else (if ((decide (t279 < t280)) == (x5 == (-1))) = true then (some ((decide (t279 > t280)) == (x5 == 1))) else (some false))) else (some false)) else (if (x274006 != x275006) = true then (some true) else (if ((decide (t279 < t280)) == (x5 == (-1))) = true then (some ((decide (t279 > t280)) == (x5 == 1))) else (some false)))))) else (some false))))
def laws_FnDateOrder.f (k : Nat) (l0 : List Int) : Option (Bool) := (laws_big.f l0).bind fun t256 => (if t256 = true then (some true) else ((spec_DrawCompareDate.f k l0).bind fun bt257 => ((impl_CompareDate.f k bt257.1 bt257.2.1 bt257.2.2.1 bt257.2.2.2.1 bt257.2.2.2.2.1 bt257.2.2.2.2.2.1 bt257.2.2.2.2.2.2.1 bt257.2.2.2.2.2.2.2.1 bt257.2.2.2.2.2.2.2.2.1 bt257.2.2.2.2.2.2.2.2.2.1 bt257.2.2.2.2.2.2.2.2.2.2.1 bt257.2.2.2.2.2.2.2.2.2.2.2.1 bt257.2.2.2.2.2.2.2.2.2.2.2.2.1 bt257.2.2.2.2.2.2.2.2.2.2.2.2.2.1 bt257.2.2.2.2.2.2.2.2.2.2.2.2.2.2.1 bt257.2.2.2.2.2.2.2.2.2.2.2.2.2.2.2).bind fun t275 => ((impl_CompareDate.f k bt257.2.2.2.2.2.2.2.2.1 bt257.2.2.2.2.2.2.2.2.2.1 bt257.2.2.2.2.2.2.2.2.2.2.1 bt257.2.2.2.2.2.2.2.2.2.2.2.1 bt257.2.2.2.2.2.2.2.2.2.2.2.2.1 bt257.2.2.2.2.2.2.2.2.2.2.2.2.2.1 bt257.2.2.2.2.2.2.2.2.2.2.2.2.2.2.1 bt257.2.2.2.2.2.2.2.2.2.2.2.2.2.2.2 bt257.1 bt257.2.1 bt257.2.2.1 bt257.2.2.2.1 bt257.2.2.2.2.1 bt257.2.2.2.2.2.1 bt257.2.2.2.2.2.2.1 bt257.2.2.2.2.2.2.2.1).bind fun t276 => ((spec_CompareDate.f k bt257.1 bt257.2.1 bt257.2.2.1 bt257.2.2.2.1 bt257.2.2.2.2.1 bt257.2.2.2.2.2.1 bt257.2.2.2.2.2.2.1 bt257.2.2.2.2.2.2.2.1 bt257.2.2.2.2.2.2.2.2.1 bt257.2.2.2.2.2.2.2.2.2.1 bt257.2.2.2.2.2.2.2.2.2.2.1 bt257.2.2.2.2.2.2.2.2.2.2.2.1 bt257.2.2.2.2.2.2.2.2.2.2.2.2.1 bt257.2.2.2.2.2.2.2.2.2.2.2.2.2.1 bt257.2.2.2.2.2.2.2.2.2.2.2.2.2.2.1 bt257.2.2.2.2.2.2.2.2.2.2.2.2.2.2.2).bind fun t277 => (if t275 = t277 then (laws_FnDateOrder.j0 k t275 t276 (decide (t275 > 1)) bt257.1 bt257.2.1 bt257.2.2.1 bt257.2.2.2.1 bt257.2.2.2.2.1 bt257.2.2.2.2.2.1 bt257.2.2.2.2.2.2.1 bt257.2.2.2.2.2.2.2.1 bt257.2.2.2.2.2.2.2.2.1 bt257.2.2.2.2.2.2.2.2.2.1 bt257.2.2.2.2.2.2.2.2.2.2.1 bt257.2.2.2.2.2.2.2.2.2.2.2.1 bt257.2.2.2.2.2.2.2.2.2.2.2.2.1 bt257.2.2.2.2.2.2.2.2.2.2.2.2.2.1 bt257.2.2.2.2.2.2.2.2.2.2.2.2.2.2.1 bt257.2.2.2.2.2.2.2.2.2.2.2.2.2.2.2) else (laws_FnDateOrder.j0 k t275 t276 true bt257.1 bt257.2.1 bt257.2.2.1 bt257.2.2.2.1 bt257.2.2.2.2.1 bt257.2.2.2.2.2.1 bt257.2.2.2.2.2.2.1 bt257.2.2.2.2.2.2.2.1 bt257.2.2.2.2.2.2.2.2.1 bt257.2.2.2.2.2.2.2.2.2.1 bt257.2.2.2.2.2.2.2.2.2.2.1 bt257.2.2.2.2.2.2.2.2.2.2.2.1 bt257.2.2.2.2.2.2.2.2.2.2.2.2.1 bt257.2.2.2.2.2.2.2.2.2.2.2.2.2.1 bt257.2.2.2.2.2.2.2.2.2.2.2.2.2.2.1 bt257.2.2.2.2.2.2.2.2.2.2.2.2.2.2.2)))))))
theorem laws_FnDateOrder.mono_l : ∀ k, (∀ y0 y1 y2 y3 y4 y5 y6 y7 y8 y9 y10 y11 y12 y13 y14 y15 y16 y17 y18, LeO (laws_FnDateOrder.j0 k y0 y1 y2 y3 y4 y5 y6 y7 y8 y9 y10 y11 y12 y13 y14 y15 y16 y17 y18) (laws_FnDateOrder.j0 (k + 1) y0 y1 y2 y3 y4 y5 y6 y7 y8 y9 y10 y11 y12 y13 y14 y15 y16 y17 y18))
 | 0 => fun _ _ _ _ _ _ _ _ _ _ _ _ _ _ _ _ _ _ _ r h => by simp [laws_FnDateOrder.j0] at h
 | k + 1 => by
  have ih0 := laws_FnDateOrder.mono_l k
  ·intro y0 y1 y2 y3 y4 y5 y6 y7 y8 y9 y10 y11 y12 y13 y14 y15 y16 y17 y18
   unfold laws_FnDateOrder.j0
   repeat' first
   | (with_reducible exact ih0 _ _ _ _ _ _ _ _ _ _ _ _ _ _ _ _ _ _ _)
   | (with_reducible exact impl_CompareDate.mono _ _ _ _ _ _ _ _ _ _ _ _ _ _ _ _ _)
   | (with_reducible exact impl_SecondsOf.mono _ _ _ _ _ _ _ _ _)
   | (with_reducible exact spec_CompareDate.mono _ _ _ _ _ _ _ _ _ _ _ _ _ _ _ _ _)
   | (with_reducible exact spec_DrawCompareDate.mono _ _)
   | (with_reducible exact LeO.refl _)
   | (with_reducible exact LeO.none _)
   | (with_reducible refine LeO.ite ?_ ?_)
   | (with_reducible refine LeO.bind ?_ (fun _ => ?_))
   | exact ih0 _ _ _ _ _ _ _ _ _ _ _ _ _ _ _ _ _ _ _
   | exact impl_CompareDate.mono _ _ _ _ _ _ _ _ _ _ _ _ _ _ _ _ _
   | exact impl_SecondsOf.mono _ _ _ _ _ _ _ _ _
   | exact spec_CompareDate.mono _ _ _ _ _ _ _ _ _ _ _ _ _ _ _ _ _
   | exact spec_DrawCompareDate.mono _ _
   | exact LeO.none _
   | refine LeO.ite ?_ ?_
   | refine LeO.bind ?_ (fun _ => ?_)
theorem laws_FnDateOrder.mono : ∀ a0 k, LeO (laws_FnDateOrder.f k a0) (laws_FnDateOrder.f (k + 1) a0) := by
 intro a0 k
 have ih0 := laws_FnDateOrder.mono_l k
 unfold laws_FnDateOrder.f
 repeat' first
   | (with_reducible exact ih0 _ _ _ _ _ _ _ _ _ _ _ _ _ _ _ _ _ _ _)
   | (with_reducible exact impl_CompareDate.mono _ _ _ _ _ _ _ _ _ _ _ _ _ _ _ _ _)
   | (with_reducible exact impl_SecondsOf.mono _ _ _ _ _ _ _ _ _)
   | (with_reducible exact spec_CompareDate.mono _ _ _ _ _ _ _ _ _ _ _ _ _ _ _ _ _)
   | (with_reducible exact spec_DrawCompareDate.mono _ _)
   | (with_reducible exact LeO.refl _)
   | (with_reducible exact LeO.none _)
   | (with_reducible refine LeO.ite ?_ ?_)
   | (with_reducible refine LeO.bind ?_ (fun _ => ?_))
   | exact ih0 _ _ _ _ _ _ _ _ _ _ _ _ _ _ _ _ _ _ _
   | exact impl_CompareDate.mono _ _ _ _ _ _ _ _ _ _ _ _ _ _ _ _ _
   | exact impl_SecondsOf.mono _ _ _ _ _ _ _ _ _
   | exact spec_CompareDate.mono _ _ _ _ _ _ _ _ _ _ _ _ _ _ _ _ _
   | exact spec_DrawCompareDate.mono _ _
   | exact LeO.none _
   | refine LeO.ite ?_ ?_
   | refine LeO.bind ?_ (fun _ => ?_)
set_option maxHeartbeats 8000000 in
set_option maxRecDepth 100000 in
theorem laws_FnDateOrder.calls (k : Nat) (A0 : Option Addr) (c0 : Nat) (l0 : List Int) (r : Bool) (w : World) (hr0 : Kd.C (Kd.int .u8) w A0 l0.length l0) (hc0 : l0.length ≤ c0) (h : laws_FnDateOrder.f k l0 = some r) (hrt : r = true := by rfl) :
  Calls Try.prog 11 #[.slice A0 l0.length c0] w fun e w' => e = .returned (.bool r) ∧ Below w.heap.size w w' := by
 have HRT := Aside0.mk hrt
 clear hrt
 have hu29 := Try.underlying29
 have HR0 := Aside0.mk hr0
 have HC0 := Aside0.mk hc0
 clear hr0 hc0
 have HB := Aside0.mk (Below.refl w.heap.size w)
 have H : ((laws_big.f l0).bind fun t256 => (if t256 = true then (some true) else ((spec_DrawCompareDate.f k l0).bind fun bt257 => ((impl_CompareDate.f k bt257.1 bt257.2.1 bt257.2.2.1 bt257.2.2.2.1 bt257.2.2.2.2.1 bt257.2.2.2.2.2.1 bt257.2.2.2.2.2.2.1 bt257.2.2.2.2.2.2.2.1 bt257.2.2.2.2.2.2.2.2.1 bt257.2.2.2.2.2.2.2.2.2.1 bt257.2.2.2.2.2.2.2.2.2.2.1 bt257.2.2.2.2.2.2.2.2.2.2.2.1 bt257.2.2.2.2.2.2.2.2.2.2.2.2.1 bt257.2.2.2.2.2.2.2.2.2.2.2.2.2.1 bt257.2.2.2.2.2.2.2.2.2.2.2.2.2.2.1 bt257.2.2.2.2.2.2.2.2.2.2.2.2.2.2.2).bind fun t275 => ((impl_CompareDate.f k bt257.2.2.2.2.2.2.2.2.1 bt257.2.2.2.2.2.2.2.2.2.1 bt257.2.2.2.2.2.2.2.2.2.2.1 bt257.2.2.2.2.2.2.2.2.2.2.2.1 bt257.2.2.2.2.2.2.2.2.2.2.2.2.1 bt257.2.2.2.2.2.2.2.2.2.2.2.2.2.1 bt257.2.2.2.2.2.2.2.2.2.2.2.2.2.2.1 bt257.2.2.2.2.2.2.2.2.2.2.2.2.2.2.2 bt257.1 bt257.2.1 bt257.2.2.1 bt257.2.2.2.1 bt257.2.2.2.2.1 bt257.2.2.2.2.2.1 bt257.2.2.2.2.2.2.1 bt257.2.2.2.2.2.2.2.1).bind fun t276 => ((spec_CompareDate.f k bt257.1 bt257.2.1 bt257.2.2.1 bt257.2.2.2.1 bt257.2.2.2.2.1 bt257.2.2.2.2.2.1 bt257.2.2.2.2.2.2.1 bt257.2.2.2.2.2.2.2.1 bt257.2.2.2.2.2.2.2.2.1 bt257.2.2.2.2.2.2.2.2.2.1 bt257.2.2.2.2.2.2.2.2.2.2.1 bt257.2.2.2.2.2.2.2.2.2.2.2.1 bt257.2.2.2.2.2.2.2.2.2.2.2.2.1 bt257.2.2.2.2.2.2.2.2.2.2.2.2.2.1 bt257.2.2.2.2.2.2.2.2.2.2.2.2.2.2.1 bt257.2.2.2.2.2.2.2.2.2.2.2.2.2.2.2).bind fun t277 => (if t275 = t277 then (laws_FnDateOrder.j0 k t275 t276 (decide (t275 > 1)) bt257.1 bt257.2.1 bt257.2.2.1 bt257.2.2.2.1 bt257.2.2.2.2.1 bt257.2.2.2.2.2.1 bt257.2.2.2.2.2.2.1 bt257.2.2.2.2.2.2.2.1 bt257.2.2.2.2.2.2.2.2.1 bt257.2.2.2.2.2.2.2.2.2.1 bt257.2.2.2.2.2.2.2.2.2.2.1 bt257.2.2.2.2.2.2.2.2.2.2.2.1 bt257.2.2.2.2.2.2.2.2.2.2.2.2.1 bt257.2.2.2.2.2.2.2.2.2.2.2.2.2.1 bt257.2.2.2.2.2.2.2.2.2.2.2.2.2.2.1 bt257.2.2.2.2.2.2.2.2.2.2.2.2.2.2.2) else (laws_FnDateOrder.j0 k t275 t276 true bt257.1 bt257.2.1 bt257.2.2.1 bt257.2.2.2.1 bt257.2.2.2.2.1 bt257.2.2.2.2.2.1 bt257.2.2.2.2.2.2.1 bt257.2.2.2.2.2.2.2.1 bt257.2.2.2.2.2.2.2.2.1 bt257.2.2.2.2.2.2.2.2.2.1 bt257.2.2.2.2.2.2.2.2.2.2.1 bt257.2.2.2.2.2.2.2.2.2.2.2.1 bt257.2.2.2.2.2.2.2.2.2.2.2.2.1 bt257.2.2.2.2.2.2.2.2.2.2.2.2.2.1 bt257.2.2.2.2.2.2.2.2.2.2.2.2.2.2.1 bt257.2.2.2.2.2.2.2.2.2.2.2.2.2.2.2)))))))) = some r := h
 clear h
 replace H := Option.bind_eq_some_iff.mp H
 obtain ⟨t256, A20, H⟩ := H
 replace H : (if t256 = true then (some true) else ((spec_DrawCompareDate.f k l0).bind fun bt257 => ((impl_CompareDate.f k bt257.1 bt257.2.1 bt257.2.2.1 bt257.2.2.2.1 bt257.2.2.2.2.1 bt257.2.2.2.2.2.1 bt257.2.2.2.2.2.2.1 bt257.2.2.2.2.2.2.2.1 bt257.2.2.2.2.2.2.2.2.1 bt257.2.2.2.2.2.2.2.2.2.1 bt257.2.2.2.2.2.2.2.2.2.2.1 bt257.2.2.2.2.2.2.2.2.2.2.2.1 bt257.2.2.2.2.2.2.2.2.2.2.2.2.1 bt257.2.2.2.2.2.2.2.2.2.2.2.2.2.1 bt257.2.2.2.2.2.2.2.2.2.2.2.2.2.2.1 bt257.2.2.2.2.2.2.2.2.2.2.2.2.2.2.2).bind fun t275 => ((impl_CompareDate.f k bt257.2.2.2.2.2.2.2.2.1 bt257.2.2.2.2.2.2.2.2.2.1 bt257.2.2.2.2.2.2.2.2.2.2.1 bt257.2.2.2.2.2.2.2.2.2.2.2.1 bt257.2.2.2.2.2.2.2.2.2.2.2.2.1 bt257.2.2.2.2.2.2.2.2.2.2.2.2.2.1 bt257.2.2.2.2.2.2.2.2.2.2.2.2.2.2.1 bt257.2.2.2.2.2.2.2.2.2.2.2.2.2.2.2 bt257.1 bt257.2.1 bt257.2.2.1 bt257.2.2.2.1 bt257.2.2.2.2.1 bt257.2.2.2.2.2.1 bt257.2.2.2.2.2.2.1 bt257.2.2.2.2.2.2.2.1).bind fun t276 => ((spec_CompareDate.f k bt257.1 bt257.2.1 bt257.2.2.1 bt257.2.2.2.1 bt257.2.2.2.2.1 bt257.2.2.2.2.2.1 bt257.2.2.2.2.2.2.1 bt257.2.2.2.2.2.2.2.1 bt257.2.2.2.2.2.2.2.2.1 bt257.2.2.2.2.2.2.2.2.2.1 bt257.2.2.2.2.2.2.2.2.2.2.1 bt257.2.2.2.2.2.2.2.2.2.2.2.1 bt257.2.2.2.2.2.2.2.2.2.2.2.2.1 bt257.2.2.2.2.2.2.2.2.2.2.2.2.2.1 bt257.2.2.2.2.2.2.2.2.2.2.2.2.2.2.1 bt257.2.2.2.2.2.2.2.2.2.2.2.2.2.2.2).bind fun t277 => (if t275 = t277 then (laws_FnDateOrder.j0 k t275 t276 (decide (t275 > 1)) bt257.1 bt257.2.1 bt257.2.2.1 bt257.2.2.2.1 bt257.2.2.2.2.1 bt257.2.2.2.2.2.1 bt257.2.2.2.2.2.2.1 bt257.2.2.2.2.2.2.2.1 bt257.2.2.2.2.2.2.2.2.1 bt257.2.2.2.2.2.2.2.2.2.1 bt257.2.2.2.2.2.2.2.2.2.2.1 bt257.2.2.2.2.2.2.2.2.2.2.2.1 bt257.2.2.2.2.2.2.2.2.2.2.2.2.1 bt257.2.2.2.2.2.2.2.2.2.2.2.2.2.1 bt257.2.2.2.2.2.2.2.2.2.2.2.2.2.2.1 bt257.2.2.2.2.2.2.2.2.2.2.2.2.2.2.2) else (laws_FnDateOrder.j0 k t275 t276 true bt257.1 bt257.2.1 bt257.2.2.1 bt257.2.2.2.1 bt257.2.2.2.2.1 bt257.2.2.2.2.2.1 bt257.2.2.2.2.2.2.1 bt257.2.2.2.2.2.2.2.1 bt257.2.2.2.2.2.2.2.2.1 bt257.2.2.2.2.2.2.2.2.2.1 bt257.2.2.2.2.2.2.2.2.2.2.1 bt257.2.2.2.2.2.2.2.2.2.2.2.1 bt257.2.2.2.2.2.2.2.2.2.2.2.2.1 bt257.2.2.2.2.2.2.2.2.2.2.2.2.2.1 bt257.2.2.2.2.2.2.2.2.2.2.2.2.2.2.1 bt257.2.2.2.2.2.2.2.2.2.2.2.2.2.2.2))))))) = some r := H
 have A2 := Aside0.mk A20
 clear A20
 by_cases c3 : t256 = true
 ·subst c3
  have H1 : (some true) = some r := by rw [if_pos rfl] at H; exact H
  clear H
  have H := H1
  clear H1
  obtain rfl := Option.some.inj H
  go_enter Try.func11, Try.ntmps11
  go_wp2_with (first | ((with_reducible refine gate_callee (f := 24) rfl ?_); refine goesL_ (some 10) rfl rfl Try.func24 (by kernel_rfl) rfl #[.slice A0 l0.length c0] rfl (by (try simp only [List.map_toArray, List.map_cons, List.map_nil]); first | done | rfl | (simp only [List.length_drop, List.length_take]; rfl)) ?_; (with_reducible refine (laws_big.calls _ _ l0 true _ ?side1 ?side2 A2.out).mono ?_); (case side1 => repeat (first | exact HR0.out | (with_reducible refine Kd.C_alloc ?_ _) | (with_reducible refine Kd.C_drewN ?_ _) | (with_reducible refine Kd.C_drew ?_))); (case side2 => exact HC0.out); rintro e w' ⟨rfl, ⟨nd, rfl⟩⟩; refine ⟨_, rfl, ?_⟩))
  go_ret
  exact ⟨by first | rfl | (simp [*] <;> rfl), by repeat (first | (with_reducible first | exact HB.out | apply below_alloc | apply pw_below_drewN | apply below_drew1) | exact HB.out)⟩
 ·replace c3 := Bool.eq_false_iff.mpr c3
  subst c3
  have H1 : ((spec_DrawCompareDate.f k l0).bind fun bt257 => ((impl_CompareDate.f k bt257.1 bt257.2.1 bt257.2.2.1 bt257.2.2.2.1 bt257.2.2.2.2.1 bt257.2.2.2.2.2.1 bt257.2.2.2.2.2.2.1 bt257.2.2.2.2.2.2.2.1 bt257.2.2.2.2.2.2.2.2.1 bt257.2.2.2.2.2.2.2.2.2.1 bt257.2.2.2.2.2.2.2.2.2.2.1 bt257.2.2.2.2.2.2.2.2.2.2.2.1 bt257.2.2.2.2.2.2.2.2.2.2.2.2.1 bt257.2.2.2.2.2.2.2.2.2.2.2.2.2.1 bt257.2.2.2.2.2.2.2.2.2.2.2.2.2.2.1 bt257.2.2.2.2.2.2.2.2.2.2.2.2.2.2.2).bind fun t275 => ((impl_CompareDate.f k bt257.2.2.2.2.2.2.2.2.1 bt257.2.2.2.2.2.2.2.2.2.1 bt257.2.2.2.2.2.2.2.2.2.2.1 bt257.2.2.2.2.2.2.2.2.2.2.2.1 bt257.2.2.2.2.2.2.2.2.2.2.2.2.1 bt257.2.2.2.2.2.2.2.2.2.2.2.2.2.1 bt257.2.2.2.2.2.2.2.2.2.2.2.2.2.2.1 bt257.2.2.2.2.2.2.2.2.2.2.2.2.2.2.2 bt257.1 bt257.2.1 bt257.2.2.1 bt257.2.2.2.1 bt257.2.2.2.2.1 bt257.2.2.2.2.2.1 bt257.2.2.2.2.2.2.1 bt257.2.2.2.2.2.2.2.1).bind fun t276 => ((spec_CompareDate.f k bt257.1 bt257.2.1 bt257.2.2.1 bt257.2.2.2.1 bt257.2.2.2.2.1 bt257.2.2.2.2.2.1 bt257.2.2.2.2.2.2.1 bt257.2.2.2.2.2.2.2.1 bt257.2.2.2.2.2.2.2.2.1 bt257.2.2.2.2.2.2.2.2.2.1 bt257.2.2.2.2.2.2.2.2.2.2.1 bt257.2.2.2.2.2.2.2.2.2.2.2.1 bt257.2.2.2.2.2.2.2.2.2.2.2.2.1 bt257.2.2.2.2.2.2.2.2.2.2.2.2.2.1 bt257.2.2.2.2.2.2.2.2.2.2.2.2.2.2.1 bt257.2.2.2.2.2.2.2.2.2.2.2.2.2.2.2).bind fun t277 => (if t275 = t277 then (laws_FnDateOrder.j0 k t275 t276 (decide (t275 > 1)) bt257.1 bt257.2.1 bt257.2.2.1 bt257.2.2.2.1 bt257.2.2.2.2.1 bt257.2.2.2.2.2.1 bt257.2.2.2.2.2.2.1 bt257.2.2.2.2.2.2.2.1 bt257.2.2.2.2.2.2.2.2.1 bt257.2.2.2.2.2.2.2.2.2.1 bt257.2.2.2.2.2.2.2.2.2.2.1 bt257.2.2.2.2.2.2.2.2.2.2.2.1 bt257.2.2.2.2.2.2.2.2.2.2.2.2.1 bt257.2.2.2.2.2.2.2.2.2.2.2.2.2.1 bt257.2.2.2.2.2.2.2.2.2.2.2.2.2.2.1 bt257.2.2.2.2.2.2.2.2.2.2.2.2.2.2.2) else (laws_FnDateOrder.j0 k t275 t276 true bt257.1 bt257.2.1 bt257.2.2.1 bt257.2.2.2.1 bt257.2.2.2.2.1 bt257.2.2.2.2.2.1 bt257.2.2.2.2.2.2.1 bt257.2.2.2.2.2.2.2.1 bt257.2.2.2.2.2.2.2.2.1 bt257.2.2.2.2.2.2.2.2.2.1 bt257.2.2.2.2.2.2.2.2.2.2.1 bt257.2.2.2.2.2.2.2.2.2.2.2.1 bt257.2.2.2.2.2.2.2.2.2.2.2.2.1 bt257.2.2.2.2.2.2.2.2.2.2.2.2.2.1 bt257.2.2.2.2.2.2.2.2.2.2.2.2.2.2.1 bt257.2.2.2.2.2.2.2.2.2.2.2.2.2.2.2)))))) = some r := by rw [if_neg (show ¬ (false = true) by decide)] at H; exact H
  clear H
  have H := H1
  clear H1
  replace H := Option.bind_eq_some_iff.mp H
  obtain ⟨⟨t257, t258, t259, t260, t261, t262, t263, t264, t265, t266, t267, t268, t269, t270, t271, t272⟩, A40, H⟩ := H
  replace H : ((impl_CompareDate.f k t257 t258 t259 t260 t261 t262 t263 t264 t265 t266 t267 t268 t269 t270 t271 t272).bind fun t275 => ((impl_CompareDate.f k t265 t266 t267 t268 t269 t270 t271 t272 t257 t258 t259 t260 t261 t262 t263 t264).bind fun t276 => ((spec_CompareDate.f k t257 t258 t259 t260 t261 t262 t263 t264 t265 t266 t267 t268 t269 t270 t271 t272).bind fun t277 => (if t275 = t277 then (laws_FnDateOrder.j0 k t275 t276 (decide (t275 > 1)) t257 t258 t259 t260 t261 t262 t263 t264 t265 t266 t267 t268 t269 t270 t271 t272) else (laws_FnDateOrder.j0 k t275 t276 true t257 t258 t259 t260 t261 t262 t263 t264 t265 t266 t267 t268 t269 t270 t271 t272))))) = some r := H
  have A4 := Aside0.mk A40
  clear A40
  replace H := Option.bind_eq_some_iff.mp H
  obtain ⟨t275, A50, H⟩ := H
  replace H : ((impl_CompareDate.f k t265 t266 t267 t268 t269 t270 t271 t272 t257 t258 t259 t260 t261 t262 t263 t264).bind fun t276 => ((spec_CompareDate.f k t257 t258 t259 t260 t261 t262 t263 t264 t265 t266 t267 t268 t269 t270 t271 t272).bind fun t277 => (if t275 = t277 then (laws_FnDateOrder.j0 k t275 t276 (decide (t275 > 1)) t257 t258 t259 t260 t261 t262 t263 t264 t265 t266 t267 t268 t269 t270 t271 t272) else (laws_FnDateOrder.j0 k t275 t276 true t257 t258 t259 t260 t261 t262 t263 t264 t265 t266 t267 t268 t269 t270 t271 t272)))) = some r := H
  have A5 := Aside0.mk A50
  clear A50
  replace H := Option.bind_eq_some_iff.mp H
  obtain ⟨t276, A60, H⟩ := H
  replace H : ((spec_CompareDate.f k t257 t258 t259 t260 t261 t262 t263 t264 t265 t266 t267 t268 t269 t270 t271 t272).bind fun t277 => (if t275 = t277 then (laws_FnDateOrder.j0 k t275 t276 (decide (t275 > 1)) t257 t258 t259 t260 t261 t262 t263 t264 t265 t266 t267 t268 t269 t270 t271 t272) else (laws_FnDateOrder.j0 k t275 t276 true t257 t258 t259 t260 t261 t262 t263 t264 t265 t266 t267 t268 t269 t270 t271 t272))) = some r := H
  have A6 := Aside0.mk A60
  clear A60
  have HC7 := Aside0.mk H
  clear H
  go_enter Try.func11, Try.ntmps11
  go_upto_region 6 with (first | ((with_reducible refine gate_callee (f := 24) rfl ?_); refine goesL_ (some 10) rfl rfl Try.func24 (by kernel_rfl) rfl #[.slice A0 l0.length c0] rfl (by (try simp only [List.map_toArray, List.map_cons, List.map_nil]); first | done | rfl | (simp only [List.length_drop, List.length_take]; rfl)) ?_; (with_reducible refine (laws_big.calls _ _ l0 false _ ?side1 ?side2 A2.out).mono ?_); (case side1 => repeat (first | exact HR0.out | (with_reducible refine Kd.C_alloc ?_ _) | (with_reducible refine Kd.C_drewN ?_ _) | (with_reducible refine Kd.C_drew ?_))); (case side2 => exact HC0.out); rintro e w' ⟨rfl, ⟨nd, rfl⟩⟩; refine ⟨_, rfl, ?_⟩) | ((with_reducible refine gate_callee (f := 29) rfl ?_); refine goesL_ (some 13) rfl rfl Try.func29 (by kernel_rfl) rfl #[.slice A0 l0.length c0] rfl (by (try simp only [List.map_toArray, List.map_cons, List.map_nil]); first | done | rfl | (simp only [List.length_drop, List.length_take]; rfl)) ?_; (with_reducible refine (spec_DrawCompareDate.calls k _ _ l0 t257 t258 t259 t260 t261 t262 t263 t264 t265 t266 t267 t268 t269 t270 t271 t272 _ ?side1 ?side2 A4.out).mono ?_); (case side1 => repeat (first | exact HR0.out | (with_reducible refine Kd.C_alloc ?_ _) | (with_reducible refine Kd.C_drewN ?_ _) | (with_reducible refine Kd.C_drew ?_))); (case side2 => exact HC0.out); rintro e w8 ⟨rfl, hb⟩; refine ⟨_, rfl, ?_⟩; have n0_ := Aside0.mk (below_step (by repeat (first | (with_reducible first | exact HB.out | apply below_alloc | apply pw_below_drewN | apply below_drew1) | exact HB.out)) hb); clear HB; have HB := n0_; clear n0_; (try clear hb); (try clear hb2); (try clear hk); (try clear hi)) | ((with_reducible refine gate_dst (N := 3) rfl ?_); refine box_event ?hg (N := 3) ?hd (cs := #[.int .i64 0, .int .i64 0, .int .i64 0, .int .i64 0, .int .i64 0, .int .i64 0, .bool false, .int .i64 0]) (t := 29) ?hr ?_; (case hd => rfl); (case hg => rfl); (case hr => first | (go_simp; done) | (go_simp; rfl)); intro gb273 hg w9 hbox hb; have n0_ := Aside0.mk (below_step (by repeat (first | (with_reducible first | exact HB.out | apply below_alloc | apply pw_below_drewN | apply below_drew1) | exact HB.out)) hb); have n1_ := Aside0.mk (hbox); have n2_ := Aside0.mk ((by rw [hg]; exact (below_size (by repeat (first | (with_reducible first | exact HB.out | apply below_alloc | apply pw_below_drewN | apply below_drew1) | exact HB.out))) : w.heap.size ≤ gb273)); have n3_ := Aside0.mk ((by rw [hg]; exact (below_size (by repeat (first | (with_reducible first | exact HB.out | apply below_alloc | apply pw_below_drewN | apply below_drew1) | exact HB.out))) : w.heap.size ≤ gb273)); clear HB; have HB := n0_; have BK273 := n1_; have GW273 := n2_; have GE273 := n3_; clear n0_ n1_ n2_ n3_; clear hb hbox hg) | ((with_reducible refine gate_dst (N := 4) rfl ?_); refine box_event ?hg (N := 4) ?hd (cs := #[.int .i64 0, .int .i64 0, .int .i64 0, .int .i64 0, .int .i64 0, .int .i64 0, .bool false, .int .i64 0]) (t := 29) ?hr ?_; (case hd => rfl); (case hg => rfl); (case hr => first | (go_simp; done) | (go_simp; rfl)); intro gb274 hg w10 hbox hb; have n0_ := Aside0.mk (blk_below (g := gb273) (o := .cells #[.int .i64 0, .int .i64 0, .int .i64 0, .int .i64 0, .int .i64 0, .int .i64 0, .bool false, .int .i64 0] 29 (0, 0)) (by (with_reducible repeat (first | refine blk_drewN ?_ _ | refine blk_drew ?_ | refine blk_alloc ?_ _)); exact BK273.out) hb); have n1_ := Aside0.mk (below_step (by repeat (first | (with_reducible first | exact HB.out | apply below_alloc | apply pw_below_drewN | apply below_drew1 | refine below_set ?_ GE273.out) | exact HB.out)) hb); have n2_ := Aside0.mk (hbox); have n3_ := Aside0.mk ((by rw [hg]; exact (below_size (by repeat (first | (with_reducible first | exact HB.out | apply below_alloc | apply pw_below_drewN | apply below_drew1 | refine below_set ?_ GE273.out) | exact HB.out))) : w.heap.size ≤ gb274)); have n4_ := Aside0.mk ((by rw [hg]; exact (below_size (by repeat (first | (with_reducible first | exact HB.out | apply below_alloc | apply pw_below_drewN | apply below_drew1 | refine below_set ?_ GE273.out) | exact HB.out))) : w.heap.size ≤ gb274)); have n5_ := Aside0.mk ((by rw [hg]; exact Nat.ne_of_lt (blk_lt (g := gb273) (o := .cells #[.int .i64 0, .int .i64 0, .int .i64 0, .int .i64 0, .int .i64 0, .int .i64 0, .bool false, .int .i64 0] 29 (0, 0)) (by (with_reducible repeat (first | refine blk_drewN ?_ _ | refine blk_drew ?_ | refine blk_alloc ?_ _)); exact BK273.out)) : gb273 ≠ gb274)); have n6_ := Aside0.mk ((by rw [hg]; exact Nat.ne_of_gt (blk_lt (g := gb273) (o := .cells #[.int .i64 0, .int .i64 0, .int .i64 0, .int .i64 0, .int .i64 0, .int .i64 0, .bool false, .int .i64 0] 29 (0, 0)) (by (with_reducible repeat (first | refine blk_drewN ?_ _ | refine blk_drew ?_ | refine blk_alloc ?_ _)); exact BK273.out)) : gb274 ≠ gb273)); clear BK273; clear HB; have BK273 := n0_; have HB := n1_; have BK274 := n2_; have GW274 := n3_; have GE274 := n4_; have NB273_274 := n5_; have NB274_273 := n6_; clear n0_ n1_ n2_ n3_ n4_ n5_ n6_; clear hb hbox hg; have hnb11 := NB273_274.out; have hnc11 := NB274_273.out; have hcz12_0 : w10.cell? ⟨gb273, 0, none⟩ = some (.int .i64 0) := (blk_cell BK273.out 0).trans rfl; have hcz12_1 : w10.cell? ⟨gb273, 1, none⟩ = some (.int .i64 0) := (blk_cell BK273.out 1).trans rfl; have hcz12_2 : w10.cell? ⟨gb273, 2, none⟩ = some (.int .i64 0) := (blk_cell BK273.out 2).trans rfl; have hcz12_3 : w10.cell? ⟨gb273, 3, none⟩ = some (.int .i64 0) := (blk_cell BK273.out 3).trans rfl; have hcz12_4 : w10.cell? ⟨gb273, 4, none⟩ = some (.int .i64 0) := (blk_cell BK273.out 4).trans rfl; have hcz12_5 : w10.cell? ⟨gb273, 5, none⟩ = some (.int .i64 0) := (blk_cell BK273.out 5).trans rfl; have hcz12_6 : w10.cell? ⟨gb273, 6, none⟩ = some (.bool false) := (blk_cell BK273.out 6).trans rfl; have hcz12_7 : w10.cell? ⟨gb273, 7, none⟩ = some (.int .i64 0) := (blk_cell BK273.out 7).trans rfl; have hfz12_0 := blk_frozen BK273.out 0; have hfz12_1 := blk_frozen BK273.out 1; have hfz12_2 := blk_frozen BK273.out 2; have hfz12_3 := blk_frozen BK273.out 3; have hfz12_4 := blk_frozen BK273.out 4; have hfz12_5 := blk_frozen BK273.out 5; have hfz12_6 := blk_frozen BK273.out 6; have hfz12_7 := blk_frozen BK273.out 7) | ((with_reducible refine gate_store (t := 29) (p := 3) rfl ?_); refine store_event (t := 29) (p := 3) (v := ?vo_w13) (w1 := ((((((((w10.setCell ⟨gb273, 0, none⟩ (.int .i64 t257)).setCell ⟨gb273, 1, none⟩ (.int .i64 t258)).setCell ⟨gb273, 2, none⟩ (.int .i64 t259)).setCell ⟨gb273, 3, none⟩ (.int .i64 t260)).setCell ⟨gb273, 4, none⟩ (.int .i64 t261)).setCell ⟨gb273, 5, none⟩ (.int .i64 t262)).setCell ⟨gb273, 6, none⟩ (.bool t263)).setCell ⟨gb273, 7, none⟩ (.int .i64 t264))) ?hg ?ho ?hn ?hr ?_; (case ho => rfl); (case hg => rfl); (case hn => rfl); (case hr => first | (go_simp; done) | (go_simp; rfl)); intro w13 hw; have n0_ : Aside0 (w13.heap[gb273]? = some (.cells #[.int .i64 t257, .int .i64 t258, .int .i64 t259, .int .i64 t260, .int .i64 t261, .int .i64 t262, .bool t263, .int .i64 t264] 29 (0, 0))) := ⟨(by rw [hw]; exact (by (with_reducible repeat (first | refine blk_drewN ?_ _ | refine blk_drew ?_ | refine blk_alloc ?_ _)); refine blk_put (cs := #[.int .i64 t257, .int .i64 t258, .int .i64 t259, .int .i64 t260, .int .i64 t261, .int .i64 t262, .bool t263, .int .i64 0]) ?_ 7 _ rfl; (with_reducible repeat (first | refine blk_drewN ?_ _ | refine blk_drew ?_ | refine blk_alloc ?_ _)); refine blk_put (cs := #[.int .i64 t257, .int .i64 t258, .int .i64 t259, .int .i64 t260, .int .i64 t261, .int .i64 t262, .bool false, .int .i64 0]) ?_ 6 _ rfl; (with_reducible repeat (first | refine blk_drewN ?_ _ | refine blk_drew ?_ | refine blk_alloc ?_ _)); refine blk_put (cs := #[.int .i64 t257, .int .i64 t258, .int .i64 t259, .int .i64 t260, .int .i64 t261, .int .i64 0, .bool false, .int .i64 0]) ?_ 5 _ rfl; (with_reducible repeat (first | refine blk_drewN ?_ _ | refine blk_drew ?_ | refine blk_alloc ?_ _)); refine blk_put (cs := #[.int .i64 t257, .int .i64 t258, .int .i64 t259, .int .i64 t260, .int .i64 0, .int .i64 0, .bool false, .int .i64 0]) ?_ 4 _ rfl; (with_reducible repeat (first | refine blk_drewN ?_ _ | refine blk_drew ?_ | refine blk_alloc ?_ _)); refine blk_put (cs := #[.int .i64 t257, .int .i64 t258, .int .i64 t259, .int .i64 0, .int .i64 0, .int .i64 0, .bool false, .int .i64 0]) ?_ 3 _ rfl; (with_reducible repeat (first | refine blk_drewN ?_ _ | refine blk_drew ?_ | refine blk_alloc ?_ _)); refine blk_put (cs := #[.int .i64 t257, .int .i64 t258, .int .i64 0, .int .i64 0, .int .i64 0, .int .i64 0, .bool false, .int .i64 0]) ?_ 2 _ rfl; (with_reducible repeat (first | refine blk_drewN ?_ _ | refine blk_drew ?_ | refine blk_alloc ?_ _)); refine blk_put (cs := #[.int .i64 t257, .int .i64 0, .int .i64 0, .int .i64 0, .int .i64 0, .int .i64 0, .bool false, .int .i64 0]) ?_ 1 _ rfl; (with_reducible repeat (first | refine blk_drewN ?_ _ | refine blk_drew ?_ | refine blk_alloc ?_ _)); refine blk_put (cs := #[.int .i64 0, .int .i64 0, .int .i64 0, .int .i64 0, .int .i64 0, .int .i64 0, .bool false, .int .i64 0]) ?_ 0 _ rfl; (with_reducible repeat (first | refine blk_drewN ?_ _ | refine blk_drew ?_ | refine blk_alloc ?_ _)); exact BK273.out))⟩; have n1_ : Aside0 (w13.heap[gb274]? = some (.cells #[.int .i64 0, .int .i64 0, .int .i64 0, .int .i64 0, .int .i64 0, .int .i64 0, .bool false, .int .i64 0] 29 (0, 0))) := ⟨(by rw [hw]; exact (by (with_reducible repeat (first | refine blk_drewN ?_ _ | refine blk_drew ?_ | refine blk_alloc ?_ _)); refine blk_far ?_ NB274_273.out _; (with_reducible repeat (first | refine blk_drewN ?_ _ | refine blk_drew ?_ | refine blk_alloc ?_ _)); refine blk_far ?_ NB274_273.out _; (with_reducible repeat (first | refine blk_drewN ?_ _ | refine blk_drew ?_ | refine blk_alloc ?_ _)); refine blk_far ?_ NB274_273.out _; (with_reducible repeat (first | refine blk_drewN ?_ _ | refine blk_drew ?_ | refine blk_alloc ?_ _)); refine blk_far ?_ NB274_273.out _; (with_reducible repeat (first | refine blk_drewN ?_ _ | refine blk_drew ?_ | refine blk_alloc ?_ _)); refine blk_far ?_ NB274_273.out _; (with_reducible repeat (first | refine blk_drewN ?_ _ | refine blk_drew ?_ | refine blk_alloc ?_ _)); refine blk_far ?_ NB274_273.out _; (with_reducible repeat (first | refine blk_drewN ?_ _ | refine blk_drew ?_ | refine blk_alloc ?_ _)); refine blk_far ?_ NB274_273.out _; (with_reducible repeat (first | refine blk_drewN ?_ _ | refine blk_drew ?_ | refine blk_alloc ?_ _)); refine blk_far ?_ NB274_273.out _; (with_reducible repeat (first | refine blk_drewN ?_ _ | refine blk_drew ?_ | refine blk_alloc ?_ _)); exact BK274.out))⟩; have n2_ : Aside0 (Below w.heap.size w w13) := ⟨(by rw [hw]; exact (by repeat (first | (with_reducible first | exact HB.out | apply below_alloc | apply pw_below_drewN | apply below_drew1 | refine below_set ?_ GE273.out | refine below_set ?_ GE274.out) | exact HB.out)))⟩; clear hw; clear BK273; clear BK274; clear HB; have BK273 := n0_; have BK274 := n1_; have HB := n2_; clear n0_ n1_ n2_; have hcz14_0 : w13.cell? ⟨gb274, 0, none⟩ = some (.int .i64 0) := (blk_cell BK274.out 0).trans rfl; have hcz14_1 : w13.cell? ⟨gb274, 1, none⟩ = some (.int .i64 0) := (blk_cell BK274.out 1).trans rfl; have hcz14_2 : w13.cell? ⟨gb274, 2, none⟩ = some (.int .i64 0) := (blk_cell BK274.out 2).trans rfl; have hcz14_3 : w13.cell? ⟨gb274, 3, none⟩ = some (.int .i64 0) := (blk_cell BK274.out 3).trans rfl; have hcz14_4 : w13.cell? ⟨gb274, 4, none⟩ = some (.int .i64 0) := (blk_cell BK274.out 4).trans rfl; have hcz14_5 : w13.cell? ⟨gb274, 5, none⟩ = some (.int .i64 0) := (blk_cell BK274.out 5).trans rfl; have hcz14_6 : w13.cell? ⟨gb274, 6, none⟩ = some (.bool false) := (blk_cell BK274.out 6).trans rfl; have hcz14_7 : w13.cell? ⟨gb274, 7, none⟩ = some (.int .i64 0) := (blk_cell BK274.out 7).trans rfl; have hfz14_0 := blk_frozen BK274.out 0; have hfz14_1 := blk_frozen BK274.out 1; have hfz14_2 := blk_frozen BK274.out 2; have hfz14_3 := blk_frozen BK274.out 3; have hfz14_4 := blk_frozen BK274.out 4; have hfz14_5 := blk_frozen BK274.out 5; have hfz14_6 := blk_frozen BK274.out 6; have hfz14_7 := blk_frozen BK274.out 7) | ((with_reducible refine gate_store (t := 29) (p := 4) rfl ?_); refine store_event (t := 29) (p := 4) (v := ?vo_w15) (w1 := ((((((((w13.setCell ⟨gb274, 0, none⟩ (.int .i64 t265)).setCell ⟨gb274, 1, none⟩ (.int .i64 t266)).setCell ⟨gb274, 2, none⟩ (.int .i64 t267)).setCell ⟨gb274, 3, none⟩ (.int .i64 t268)).setCell ⟨gb274, 4, none⟩ (.int .i64 t269)).setCell ⟨gb274, 5, none⟩ (.int .i64 t270)).setCell ⟨gb274, 6, none⟩ (.bool t271)).setCell ⟨gb274, 7, none⟩ (.int .i64 t272))) ?hg ?ho ?hn ?hr ?_; (case ho => rfl); (case hg => rfl); (case hn => rfl); (case hr => first | (go_simp; done) | (go_simp; rfl)); intro w15 hw; have n0_ : Aside0 (w15.heap[gb273]? = some (.cells #[.int .i64 t257, .int .i64 t258, .int .i64 t259, .int .i64 t260, .int .i64 t261, .int .i64 t262, .bool t263, .int .i64 t264] 29 (0, 0))) := ⟨(by rw [hw]; exact (by (with_reducible repeat (first | refine blk_drewN ?_ _ | refine blk_drew ?_ | refine blk_alloc ?_ _)); refine blk_far ?_ NB273_274.out _; (with_reducible repeat (first | refine blk_drewN ?_ _ | refine blk_drew ?_ | refine blk_alloc ?_ _)); refine blk_far ?_ NB273_274.out _; (with_reducible repeat (first | refine blk_drewN ?_ _ | refine blk_drew ?_ | refine blk_alloc ?_ _)); refine blk_far ?_ NB273_274.out _; (with_reducible repeat (first | refine blk_drewN ?_ _ | refine blk_drew ?_ | refine blk_alloc ?_ _)); refine blk_far ?_ NB273_274.out _; (with_reducible repeat (first | refine blk_drewN ?_ _ | refine blk_drew ?_ | refine blk_alloc ?_ _)); refine blk_far ?_ NB273_274.out _; (with_reducible repeat (first | refine blk_drewN ?_ _ | refine blk_drew ?_ | refine blk_alloc ?_ _)); refine blk_far ?_ NB273_274.out _; (with_reducible repeat (first | refine blk_drewN ?_ _ | refine blk_drew ?_ | refine blk_alloc ?_ _)); refine blk_far ?_ NB273_274.out _; (with_reducible repeat (first | refine blk_drewN ?_ _ | refine blk_drew ?_ | refine blk_alloc ?_ _)); refine blk_far ?_ NB273_274.out _; (with_reducible repeat (first | refine blk_drewN ?_ _ | refine blk_drew ?_ | refine blk_alloc ?_ _)); exact BK273.out))⟩; have n1_ : Aside0 (w15.heap[gb274]? = some (.cells #[.int .i64 t265, .int .i64 t266, .int .i64 t267, .int .i64 t268, .int .i64 t269, .int .i64 t270, .bool t271, .int .i64 t272] 29 (0, 0))) := ⟨(by rw [hw]; exact (by (with_reducible repeat (first | refine blk_drewN ?_ _ | refine blk_drew ?_ | refine blk_alloc ?_ _)); refine blk_put (cs := #[.int .i64 t265, .int .i64 t266, .int .i64 t267, .int .i64 t268, .int .i64 t269, .int .i64 t270, .bool t271, .int .i64 0]) ?_ 7 _ rfl; (with_reducible repeat (first | refine blk_drewN ?_ _ | refine blk_drew ?_ | refine blk_alloc ?_ _)); refine blk_put (cs := #[.int .i64 t265, .int .i64 t266, .int .i64 t267, .int .i64 t268, .int .i64 t269, .int .i64 t270, .bool false, .int .i64 0]) ?_ 6 _ rfl; (with_reducible repeat (first | refine blk_drewN ?_ _ | refine blk_drew ?_ | refine blk_alloc ?_ _)); refine blk_put (cs := #[.int .i64 t265, .int .i64 t266, .int .i64 t267, .int .i64 t268, .int .i64 t269, .int .i64 0, .bool false, .int .i64 0]) ?_ 5 _ rfl; (with_reducible repeat (first | refine blk_drewN ?_ _ | refine blk_drew ?_ | refine blk_alloc ?_ _)); refine blk_put (cs := #[.int .i64 t265, .int .i64 t266, .int .i64 t267, .int .i64 t268, .int .i64 0, .int .i64 0, .bool false, .int .i64 0]) ?_ 4 _ rfl; (with_reducible repeat (first | refine blk_drewN ?_ _ | refine blk_drew ?_ | refine blk_alloc ?_ _)); refine blk_put (cs := #[.int .i64 t265, .int .i64 t266, .int .i64 t267, .int .i64 0, .int .i64 0, .int .i64 0, .bool false, .int .i64 0]) ?_ 3 _ rfl; (with_reducible repeat (first | refine blk_drewN ?_ _ | refine blk_drew ?_ | refine blk_alloc ?_ _)); refine blk_put (cs := #[.int .i64 t265, .int .i64 t266, .int .i64 0, .int .i64 0, .int .i64 0, .int .i64 0, .bool false, .int .i64 0]) ?_ 2 _ rfl; (with_reducible repeat (first | refine blk_drewN ?_ _ | refine blk_drew ?_ | refine blk_alloc ?_ _)); refine blk_put (cs := #[.int .i64 t265, .int .i64 0, .int .i64 0, .int .i64 0, .int .i64 0, .int .i64 0, .bool false, .int .i64 0]) ?_ 1 _ rfl; (with_reducible repeat (first | refine blk_drewN ?_ _ | refine blk_drew ?_ | refine blk_alloc ?_ _)); refine blk_put (cs := #[.int .i64 0, .int .i64 0, .int .i64 0, .int .i64 0, .int .i64 0, .int .i64 0, .bool false, .int .i64 0]) ?_ 0 _ rfl; (with_reducible repeat (first | refine blk_drewN ?_ _ | refine blk_drew ?_ | refine blk_alloc ?_ _)); exact BK274.out))⟩; have n2_ : Aside0 (Below w.heap.size w w15) := ⟨(by rw [hw]; exact (by repeat (first | (with_reducible first | exact HB.out | apply below_alloc | apply pw_below_drewN | apply below_drew1 | refine below_set ?_ GE273.out | refine below_set ?_ GE274.out) | exact HB.out)))⟩; clear hw; clear BK273; clear BK274; clear HB; have BK273 := n0_; have BK274 := n1_; have HB := n2_; clear n0_ n1_ n2_; have hcz16_0 : w15.cell? ⟨gb273, 0, none⟩ = some (.int .i64 t257) := (blk_cell BK273.out 0).trans rfl; have hcz16_1 : w15.cell? ⟨gb273, 1, none⟩ = some (.int .i64 t258) := (blk_cell BK273.out 1).trans rfl; have hcz16_2 : w15.cell? ⟨gb273, 2, none⟩ = some (.int .i64 t259) := (blk_cell BK273.out 2).trans rfl; have hcz16_3 : w15.cell? ⟨gb273, 3, none⟩ = some (.int .i64 t260) := (blk_cell BK273.out 3).trans rfl; have hcz16_4 : w15.cell? ⟨gb273, 4, none⟩ = some (.int .i64 t261) := (blk_cell BK273.out 4).trans rfl; have hcz16_5 : w15.cell? ⟨gb273, 5, none⟩ = some (.int .i64 t262) := (blk_cell BK273.out 5).trans rfl; have hcz16_6 : w15.cell? ⟨gb273, 6, none⟩ = some (.bool t263) := (blk_cell BK273.out 6).trans rfl; have hcz16_7 : w15.cell? ⟨gb273, 7, none⟩ = some (.int .i64 t264) := (blk_cell BK273.out 7).trans rfl; have hfz16_0 := blk_frozen BK273.out 0; have hfz16_1 := blk_frozen BK273.out 1; have hfz16_2 := blk_frozen BK273.out 2; have hfz16_3 := blk_frozen BK273.out 3; have hfz16_4 := blk_frozen BK273.out 4; have hfz16_5 := blk_frozen BK273.out 5; have hfz16_6 := blk_frozen BK273.out 6; have hfz16_7 := blk_frozen BK273.out 7; have hcz17_0 : w15.cell? ⟨gb274, 0, none⟩ = some (.int .i64 t265) := (blk_cell BK274.out 0).trans rfl; have hcz17_1 : w15.cell? ⟨gb274, 1, none⟩ = some (.int .i64 t266) := (blk_cell BK274.out 1).trans rfl; have hcz17_2 : w15.cell? ⟨gb274, 2, none⟩ = some (.int .i64 t267) := (blk_cell BK274.out 2).trans rfl; have hcz17_3 : w15.cell? ⟨gb274, 3, none⟩ = some (.int .i64 t268) := (blk_cell BK274.out 3).trans rfl; have hcz17_4 : w15.cell? ⟨gb274, 4, none⟩ = some (.int .i64 t269) := (blk_cell BK274.out 4).trans rfl; have hcz17_5 : w15.cell? ⟨gb274, 5, none⟩ = some (.int .i64 t270) := (blk_cell BK274.out 5).trans rfl; have hcz17_6 : w15.cell? ⟨gb274, 6, none⟩ = some (.bool t271) := (blk_cell BK274.out 6).trans rfl; have hcz17_7 : w15.cell? ⟨gb274, 7, none⟩ = some (.int .i64 t272) := (blk_cell BK274.out 7).trans rfl; have hfz17_0 := blk_frozen BK274.out 0; have hfz17_1 := blk_frozen BK274.out 1; have hfz17_2 := blk_frozen BK274.out 2; have hfz17_3 := blk_frozen BK274.out 3; have hfz17_4 := blk_frozen BK274.out 4; have hfz17_5 := blk_frozen BK274.out 5; have hfz17_6 := blk_frozen BK274.out 6; have hfz17_7 := blk_frozen BK274.out 7) | ((with_reducible refine gate_callee (f := 23) rfl ?_); refine goesL_ (some 18) rfl rfl Try.func23 (by kernel_rfl) rfl #[.agg #[.int .i64 t257, .int .i64 t258, .int .i64 t259, .int .i64 t260, .int .i64 t261, .int .i64 t262, .bool t263, .int .i64 t264], .agg #[.int .i64 t265, .int .i64 t266, .int .i64 t267, .int .i64 t268, .int .i64 t269, .int .i64 t270, .bool t271, .int .i64 t272]] rfl (by (try simp only [List.map_toArray, List.map_cons, List.map_nil]); first | done | rfl | (simp only [List.length_drop, List.length_take]; rfl)) ?_; (with_reducible refine (impl_CompareDate.calls k t257 t258 t259 t260 t261 t262 t263 t264 t265 t266 t267 t268 t269 t270 t271 t272 t275 _ A5.out).mono ?_); rintro e w18 ⟨rfl, hb⟩; refine ⟨_, rfl, ?_⟩; have n0_ := Aside0.mk (blk_below (g := gb273) (o := .cells #[.int .i64 t257, .int .i64 t258, .int .i64 t259, .int .i64 t260, .int .i64 t261, .int .i64 t262, .bool t263, .int .i64 t264] 29 (0, 0)) (by (with_reducible repeat (first | refine blk_drewN ?_ _ | refine blk_drew ?_ | refine blk_alloc ?_ _)); exact BK273.out) hb); have n1_ := Aside0.mk (blk_below (g := gb274) (o := .cells #[.int .i64 t265, .int .i64 t266, .int .i64 t267, .int .i64 t268, .int .i64 t269, .int .i64 t270, .bool t271, .int .i64 t272] 29 (0, 0)) (by (with_reducible repeat (first | refine blk_drewN ?_ _ | refine blk_drew ?_ | refine blk_alloc ?_ _)); exact BK274.out) hb); have n2_ := Aside0.mk (below_step (by repeat (first | (with_reducible first | exact HB.out | apply below_alloc | apply pw_below_drewN | apply below_drew1 | refine below_set ?_ GE273.out | refine below_set ?_ GE274.out) | exact HB.out)) hb); clear BK273; clear BK274; clear HB; have BK273 := n0_; have BK274 := n1_; have HB := n2_; clear n0_ n1_ n2_; (try clear hb); (try clear hb2); (try clear hk); (try clear hi); have hcz19_0 : w18.cell? ⟨gb274, 0, none⟩ = some (.int .i64 t265) := (blk_cell BK274.out 0).trans rfl; have hcz19_1 : w18.cell? ⟨gb274, 1, none⟩ = some (.int .i64 t266) := (blk_cell BK274.out 1).trans rfl; have hcz19_2 : w18.cell? ⟨gb274, 2, none⟩ = some (.int .i64 t267) := (blk_cell BK274.out 2).trans rfl; have hcz19_3 : w18.cell? ⟨gb274, 3, none⟩ = some (.int .i64 t268) := (blk_cell BK274.out 3).trans rfl; have hcz19_4 : w18.cell? ⟨gb274, 4, none⟩ = some (.int .i64 t269) := (blk_cell BK274.out 4).trans rfl; have hcz19_5 : w18.cell? ⟨gb274, 5, none⟩ = some (.int .i64 t270) := (blk_cell BK274.out 5).trans rfl; have hcz19_6 : w18.cell? ⟨gb274, 6, none⟩ = some (.bool t271) := (blk_cell BK274.out 6).trans rfl; have hcz19_7 : w18.cell? ⟨gb274, 7, none⟩ = some (.int .i64 t272) := (blk_cell BK274.out 7).trans rfl; have hfz19_0 := blk_frozen BK274.out 0; have hfz19_1 := blk_frozen BK274.out 1; have hfz19_2 := blk_frozen BK274.out 2; have hfz19_3 := blk_frozen BK274.out 3; have hfz19_4 := blk_frozen BK274.out 4; have hfz19_5 := blk_frozen BK274.out 5; have hfz19_6 := blk_frozen BK274.out 6; have hfz19_7 := blk_frozen BK274.out 7; have hcz20_0 : w18.cell? ⟨gb273, 0, none⟩ = some (.int .i64 t257) := (blk_cell BK273.out 0).trans rfl; have hcz20_1 : w18.cell? ⟨gb273, 1, none⟩ = some (.int .i64 t258) := (blk_cell BK273.out 1).trans rfl; have hcz20_2 : w18.cell? ⟨gb273, 2, none⟩ = some (.int .i64 t259) := (blk_cell BK273.out 2).trans rfl; have hcz20_3 : w18.cell? ⟨gb273, 3, none⟩ = some (.int .i64 t260) := (blk_cell BK273.out 3).trans rfl; have hcz20_4 : w18.cell? ⟨gb273, 4, none⟩ = some (.int .i64 t261) := (blk_cell BK273.out 4).trans rfl; have hcz20_5 : w18.cell? ⟨gb273, 5, none⟩ = some (.int .i64 t262) := (blk_cell BK273.out 5).trans rfl; have hcz20_6 : w18.cell? ⟨gb273, 6, none⟩ = some (.bool t263) := (blk_cell BK273.out 6).trans rfl; have hcz20_7 : w18.cell? ⟨gb273, 7, none⟩ = some (.int .i64 t264) := (blk_cell BK273.out 7).trans rfl; have hfz20_0 := blk_frozen BK273.out 0; have hfz20_1 := blk_frozen BK273.out 1; have hfz20_2 := blk_frozen BK273.out 2; have hfz20_3 := blk_frozen BK273.out 3; have hfz20_4 := blk_frozen BK273.out 4; have hfz20_5 := blk_frozen BK273.out 5; have hfz20_6 := blk_frozen BK273.out 6; have hfz20_7 := blk_frozen BK273.out 7) | ((with_reducible refine gate_callee (f := 23) rfl ?_); refine goesL_ (some 21) rfl rfl Try.func23 (by kernel_rfl) rfl #[.agg #[.int .i64 t265, .int .i64 t266, .int .i64 t267, .int .i64 t268, .int .i64 t269, .int .i64 t270, .bool t271, .int .i64 t272], .agg #[.int .i64 t257, .int .i64 t258, .int .i64 t259, .int .i64 t260, .int .i64 t261, .int .i64 t262, .bool t263, .int .i64 t264]] rfl (by (try simp only [List.map_toArray, List.map_cons, List.map_nil]); first | done | rfl | (simp only [List.length_drop, List.length_take]; rfl)) ?_; (with_reducible refine (impl_CompareDate.calls k t265 t266 t267 t268 t269 t270 t271 t272 t257 t258 t259 t260 t261 t262 t263 t264 t276 _ A6.out).mono ?_); rintro e w21 ⟨rfl, hb⟩; refine ⟨_, rfl, ?_⟩; have n0_ := Aside0.mk (blk_below (g := gb273) (o := .cells #[.int .i64 t257, .int .i64 t258, .int .i64 t259, .int .i64 t260, .int .i64 t261, .int .i64 t262, .bool t263, .int .i64 t264] 29 (0, 0)) (by (with_reducible repeat (first | refine blk_drewN ?_ _ | refine blk_drew ?_ | refine blk_alloc ?_ _)); exact BK273.out) hb); have n1_ := Aside0.mk (blk_below (g := gb274) (o := .cells #[.int .i64 t265, .int .i64 t266, .int .i64 t267, .int .i64 t268, .int .i64 t269, .int .i64 t270, .bool t271, .int .i64 t272] 29 (0, 0)) (by (with_reducible repeat (first | refine blk_drewN ?_ _ | refine blk_drew ?_ | refine blk_alloc ?_ _)); exact BK274.out) hb); have n2_ := Aside0.mk (below_step (by repeat (first | (with_reducible first | exact HB.out | apply below_alloc | apply pw_below_drewN | apply below_drew1 | refine below_set ?_ GE273.out | refine below_set ?_ GE274.out) | exact HB.out)) hb); clear BK273; clear BK274; clear HB; have BK273 := n0_; have BK274 := n1_; have HB := n2_; clear n0_ n1_ n2_; (try clear hb); (try clear hb2); (try clear hk); (try clear hi)))
  (try simp only [Act.put, List.setIfInBounds_toArray, List.set_cons_zero, List.set_cons_succ])
  go_cut [30] (fun v30 wc => ∃ (kq : Nat) (x30_6 : Bool), v30 = .bool x30_6 ∧ Aside0 (laws_FnDateOrder.j0 kq t275 t276 x30_6 t257 t258 t259 t260 t261 t262 t263 t264 t265 t266 t267 t268 t269 t270 t271 t272 = some r) ∧ Aside0 (kq ≤ k) ∧ Aside0 (wc.heap[gb273]? = some (.cells #[.int .i64 t257, .int .i64 t258, .int .i64 t259, .int .i64 t260, .int .i64 t261, .int .i64 t262, .bool t263, .int .i64 t264] 29 (0, 0))) ∧ Aside0 (wc.heap[gb274]? = some (.cells #[.int .i64 t265, .int .i64 t266, .int .i64 t267, .int .i64 t268, .int .i64 t269, .int .i64 t270, .bool t271, .int .i64 t272] 29 (0, 0))) ∧ Aside0 (Below w.heap.size w wc))
  case first =>
   have H := HC7.out
   clear HC7
   replace H := Option.bind_eq_some_iff.mp H
   obtain ⟨t277, A220, H⟩ := H
   replace H : (if t275 = t277 then (laws_FnDateOrder.j0 k t275 t276 (decide (t275 > 1)) t257 t258 t259 t260 t261 t262 t263 t264 t265 t266 t267 t268 t269 t270 t271 t272) else (laws_FnDateOrder.j0 k t275 t276 true t257 t258 t259 t260 t261 t262 t263 t264 t265 t266 t267 t268 t269 t270 t271 t272)) = some r := H
   have A22 := Aside0.mk A220
   clear A220
   by_cases c23 : t275 = t277
   ·rw [if_pos c23] at H
    have c23b0 : (t275 == t277) = true := beq_iff_eq.mpr c23
    have c23b1 : (t275 != t277) = false := bne_eq_false_iff_eq.mpr c23
    clear c23
    (first | rw [c23b0] | (simp only [i64_w, i32_w]; rw [c23b0]) | skip)
    have H' := Aside0.mk H
    clear H
    have hnb24 := NB273_274.out
    have hnc24 := NB274_273.out
    have hcz25_0 : w21.cell? ⟨gb273, 0, none⟩ = some (.int .i64 t257) := (blk_cell BK273.out 0).trans rfl
    have hcz25_1 : w21.cell? ⟨gb273, 1, none⟩ = some (.int .i64 t258) := (blk_cell BK273.out 1).trans rfl
    have hcz25_2 : w21.cell? ⟨gb273, 2, none⟩ = some (.int .i64 t259) := (blk_cell BK273.out 2).trans rfl
    have hcz25_3 : w21.cell? ⟨gb273, 3, none⟩ = some (.int .i64 t260) := (blk_cell BK273.out 3).trans rfl
    have hcz25_4 : w21.cell? ⟨gb273, 4, none⟩ = some (.int .i64 t261) := (blk_cell BK273.out 4).trans rfl
    have hcz25_5 : w21.cell? ⟨gb273, 5, none⟩ = some (.int .i64 t262) := (blk_cell BK273.out 5).trans rfl
    have hcz25_6 : w21.cell? ⟨gb273, 6, none⟩ = some (.bool t263) := (blk_cell BK273.out 6).trans rfl
    have hcz25_7 : w21.cell? ⟨gb273, 7, none⟩ = some (.int .i64 t264) := (blk_cell BK273.out 7).trans rfl
    have hfz25_0 := blk_frozen BK273.out 0
    have hfz25_1 := blk_frozen BK273.out 1
    have hfz25_2 := blk_frozen BK273.out 2
    have hfz25_3 := blk_frozen BK273.out 3
    have hfz25_4 := blk_frozen BK273.out 4
    have hfz25_5 := blk_frozen BK273.out 5
    have hfz25_6 := blk_frozen BK273.out 6
    have hfz25_7 := blk_frozen BK273.out 7
    have hcz26_0 : w21.cell? ⟨gb274, 0, none⟩ = some (.int .i64 t265) := (blk_cell BK274.out 0).trans rfl
    have hcz26_1 : w21.cell? ⟨gb274, 1, none⟩ = some (.int .i64 t266) := (blk_cell BK274.out 1).trans rfl
    have hcz26_2 : w21.cell? ⟨gb274, 2, none⟩ = some (.int .i64 t267) := (blk_cell BK274.out 2).trans rfl
    have hcz26_3 : w21.cell? ⟨gb274, 3, none⟩ = some (.int .i64 t268) := (blk_cell BK274.out 3).trans rfl
    have hcz26_4 : w21.cell? ⟨gb274, 4, none⟩ = some (.int .i64 t269) := (blk_cell BK274.out 4).trans rfl
    have hcz26_5 : w21.cell? ⟨gb274, 5, none⟩ = some (.int .i64 t270) := (blk_cell BK274.out 5).trans rfl
    have hcz26_6 : w21.cell? ⟨gb274, 6, none⟩ = some (.bool t271) := (blk_cell BK274.out 6).trans rfl
    have hcz26_7 : w21.cell? ⟨gb274, 7, none⟩ = some (.int .i64 t272) := (blk_cell BK274.out 7).trans rfl
    have hfz26_0 := blk_frozen BK274.out 0
    have hfz26_1 := blk_frozen BK274.out 1
    have hfz26_2 := blk_frozen BK274.out 2
    have hfz26_3 := blk_frozen BK274.out 3
    have hfz26_4 := blk_frozen BK274.out 4
    have hfz26_5 := blk_frozen BK274.out 5
    have hfz26_6 := blk_frozen BK274.out 6
    have hfz26_7 := blk_frozen BK274.out 7
    go_wp2_with (first | ((with_reducible refine gate_callee (f := 22) rfl ?_); refine goesL_ (some 25) rfl rfl Try.func22 (by kernel_rfl) rfl #[.agg #[.int .i64 t257, .int .i64 t258, .int .i64 t259, .int .i64 t260, .int .i64 t261, .int .i64 t262, .bool t263, .int .i64 t264], .agg #[.int .i64 t265, .int .i64 t266, .int .i64 t267, .int .i64 t268, .int .i64 t269, .int .i64 t270, .bool t271, .int .i64 t272]] rfl (by (try simp only [List.map_toArray, List.map_cons, List.map_nil]); first | done | rfl | (simp only [List.length_drop, List.length_take]; rfl)) ?_; (with_reducible refine (spec_CompareDate.calls k t257 t258 t259 t260 t261 t262 t263 t264 t265 t266 t267 t268 t269 t270 t271 t272 t277 _ A22.out).mono ?_); rintro e w27 ⟨rfl, hb⟩; refine ⟨_, rfl, ?_⟩; have n0_ := Aside0.mk (blk_below (g := gb273) (o := .cells #[.int .i64 t257, .int .i64 t258, .int .i64 t259, .int .i64 t260, .int .i64 t261, .int .i64 t262, .bool t263, .int .i64 t264] 29 (0, 0)) (by (with_reducible repeat (first | refine blk_drewN ?_ _ | refine blk_drew ?_ | refine blk_alloc ?_ _)); exact BK273.out) hb); have n1_ := Aside0.mk (blk_below (g := gb274) (o := .cells #[.int .i64 t265, .int .i64 t266, .int .i64 t267, .int .i64 t268, .int .i64 t269, .int .i64 t270, .bool t271, .int .i64 t272] 29 (0, 0)) (by (with_reducible repeat (first | refine blk_drewN ?_ _ | refine blk_drew ?_ | refine blk_alloc ?_ _)); exact BK274.out) hb); have n2_ := Aside0.mk (below_step (by repeat (first | (with_reducible first | exact HB.out | apply below_alloc | apply pw_below_drewN | apply below_drew1 | refine below_set ?_ GE273.out | refine below_set ?_ GE274.out) | exact HB.out)) hb); clear BK273; clear BK274; clear HB; have BK273 := n0_; have BK274 := n1_; have HB := n2_; clear n0_ n1_ n2_; (try clear hb); (try clear hb2); (try clear hk); (try clear hi)))
    go_meet
    case rel => exact ⟨_, (decide (t275 > 1)), (by first | rfl | (simp; done) | (simp [*]; done)), H', ⟨by first | omega | exact Nat.le_refl _⟩, ⟨by (with_reducible repeat (first | refine blk_drewN ?_ _ | refine blk_drew ?_ | refine blk_alloc ?_ _)); exact BK273.out⟩, ⟨by (with_reducible repeat (first | refine blk_drewN ?_ _ | refine blk_drew ?_ | refine blk_alloc ?_ _)); exact BK274.out⟩, ⟨by repeat (first | (with_reducible first | exact HB.out | apply below_alloc | apply pw_below_drewN | apply below_drew1 | refine below_set ?_ GE273.out | refine below_set ?_ GE274.out) | exact HB.out)⟩⟩
   ·rw [if_neg c23] at H
    have c23b0 : (t275 == t277) = false := beq_eq_false_iff_ne.mpr c23
    have c23b1 : (t275 != t277) = true := bne_iff_ne.mpr c23
    (first | rw [c23b0] | (simp only [i64_w, i32_w]; rw [c23b0]) | skip)
    have H' := Aside0.mk H
    clear H
    have hnb28 := NB273_274.out
    have hnc28 := NB274_273.out
    have hcz29_0 : w21.cell? ⟨gb273, 0, none⟩ = some (.int .i64 t257) := (blk_cell BK273.out 0).trans rfl
    have hcz29_1 : w21.cell? ⟨gb273, 1, none⟩ = some (.int .i64 t258) := (blk_cell BK273.out 1).trans rfl
    have hcz29_2 : w21.cell? ⟨gb273, 2, none⟩ = some (.int .i64 t259) := (blk_cell BK273.out 2).trans rfl
    have hcz29_3 : w21.cell? ⟨gb273, 3, none⟩ = some (.int .i64 t260) := (blk_cell BK273.out 3).trans rfl
    have hcz29_4 : w21.cell? ⟨gb273, 4, none⟩ = some (.int .i64 t261) := (blk_cell BK273.out 4).trans rfl
    have hcz29_5 : w21.cell? ⟨gb273, 5, none⟩ = some (.int .i64 t262) := (blk_cell BK273.out 5).trans rfl
    have hcz29_6 : w21.cell? ⟨gb273, 6, none⟩ = some (.bool t263) := (blk_cell BK273.out 6).trans rfl
    have hcz29_7 : w21.cell? ⟨gb273, 7, none⟩ = some (.int .i64 t264) := (blk_cell BK273.out 7).trans rfl
    have hfz29_0 := blk_frozen BK273.out 0
    have hfz29_1 := blk_frozen BK273.out 1
    have hfz29_2 := blk_frozen BK273.out 2
    have hfz29_3 := blk_frozen BK273.out 3
    have hfz29_4 := blk_frozen BK273.out 4
    have hfz29_5 := blk_frozen BK273.out 5
    have hfz29_6 := blk_frozen BK273.out 6
    have hfz29_7 := blk_frozen BK273.out 7
    have hcz30_0 : w21.cell? ⟨gb274, 0, none⟩ = some (.int .i64 t265) := (blk_cell BK274.out 0).trans rfl
    have hcz30_1 : w21.cell? ⟨gb274, 1, none⟩ = some (.int .i64 t266) := (blk_cell BK274.out 1).trans rfl
    have hcz30_2 : w21.cell? ⟨gb274, 2, none⟩ = some (.int .i64 t267) := (blk_cell BK274.out 2).trans rfl
    have hcz30_3 : w21.cell? ⟨gb274, 3, none⟩ = some (.int .i64 t268) := (blk_cell BK274.out 3).trans rfl
    have hcz30_4 : w21.cell? ⟨gb274, 4, none⟩ = some (.int .i64 t269) := (blk_cell BK274.out 4).trans rfl
    have hcz30_5 : w21.cell? ⟨gb274, 5, none⟩ = some (.int .i64 t270) := (blk_cell BK274.out 5).trans rfl
    have hcz30_6 : w21.cell? ⟨gb274, 6, none⟩ = some (.bool t271) := (blk_cell BK274.out 6).trans rfl
    have hcz30_7 : w21.cell? ⟨gb274, 7, none⟩ = some (.int .i64 t272) := (blk_cell BK274.out 7).trans rfl
    have hfz30_0 := blk_frozen BK274.out 0
    have hfz30_1 := blk_frozen BK274.out 1
    have hfz30_2 := blk_frozen BK274.out 2
    have hfz30_3 := blk_frozen BK274.out 3
    have hfz30_4 := blk_frozen BK274.out 4
    have hfz30_5 := blk_frozen BK274.out 5
    have hfz30_6 := blk_frozen BK274.out 6
    have hfz30_7 := blk_frozen BK274.out 7
    go_wp2_with (first | ((with_reducible refine gate_callee (f := 22) rfl ?_); refine goesL_ (some 25) rfl rfl Try.func22 (by kernel_rfl) rfl #[.agg #[.int .i64 t257, .int .i64 t258, .int .i64 t259, .int .i64 t260, .int .i64 t261, .int .i64 t262, .bool t263, .int .i64 t264], .agg #[.int .i64 t265, .int .i64 t266, .int .i64 t267, .int .i64 t268, .int .i64 t269, .int .i64 t270, .bool t271, .int .i64 t272]] rfl (by (try simp only [List.map_toArray, List.map_cons, List.map_nil]); first | done | rfl | (simp only [List.length_drop, List.length_take]; rfl)) ?_; (with_reducible refine (spec_CompareDate.calls k t257 t258 t259 t260 t261 t262 t263 t264 t265 t266 t267 t268 t269 t270 t271 t272 t277 _ A22.out).mono ?_); rintro e w31 ⟨rfl, hb⟩; refine ⟨_, rfl, ?_⟩; have n0_ := Aside0.mk (blk_below (g := gb273) (o := .cells #[.int .i64 t257, .int .i64 t258, .int .i64 t259, .int .i64 t260, .int .i64 t261, .int .i64 t262, .bool t263, .int .i64 t264] 29 (0, 0)) (by (with_reducible repeat (first | refine blk_drewN ?_ _ | refine blk_drew ?_ | refine blk_alloc ?_ _)); exact BK273.out) hb); have n1_ := Aside0.mk (blk_below (g := gb274) (o := .cells #[.int .i64 t265, .int .i64 t266, .int .i64 t267, .int .i64 t268, .int .i64 t269, .int .i64 t270, .bool t271, .int .i64 t272] 29 (0, 0)) (by (with_reducible repeat (first | refine blk_drewN ?_ _ | refine blk_drew ?_ | refine blk_alloc ?_ _)); exact BK274.out) hb); have n2_ := Aside0.mk (below_step (by repeat (first | (with_reducible first | exact HB.out | apply below_alloc | apply pw_below_drewN | apply below_drew1 | refine below_set ?_ GE273.out | refine below_set ?_ GE274.out) | exact HB.out)) hb); clear BK273; clear BK274; clear HB; have BK273 := n0_; have BK274 := n1_; have HB := n2_; clear n0_ n1_ n2_; (try clear hb); (try clear hb2); (try clear hk); (try clear hi)))
    go_meet
    case rel => exact ⟨_, (true), (by first | rfl | (simp; done) | (simp [*]; done)), H', ⟨by first | omega | exact Nat.le_refl _⟩, ⟨by (with_reducible repeat (first | refine blk_drewN ?_ _ | refine blk_drew ?_ | refine blk_alloc ?_ _)); exact BK273.out⟩, ⟨by (with_reducible repeat (first | refine blk_drewN ?_ _ | refine blk_drew ?_ | refine blk_alloc ?_ _)); exact BK274.out⟩, ⟨by repeat (first | (with_reducible first | exact HB.out | apply below_alloc | apply pw_below_drewN | apply below_drew1 | refine below_set ?_ GE273.out | refine below_set ?_ GE274.out) | exact HB.out)⟩⟩
  case rest =>
   clear HC7
   try clear c1
   try clear c2
   try clear p2
   try clear c3
   try clear c11
   try clear c22
   try clear c23
   try clear c23b0
   try clear c23b1
   try clear c24
   try clear c28
   try clear c29
   try clear hcz12_0
   try clear hcz12_1
   try clear hcz12_2
   try clear hcz12_3
   try clear hcz12_4
   try clear hcz12_5
   try clear hcz12_6
   try clear hcz12_7
   try clear hcz14_0
   try clear hcz14_1
   try clear hcz14_2
   try clear hcz14_3
   try clear hcz14_4
   try clear hcz14_5
   try clear hcz14_6
   try clear hcz14_7
   try clear hcz16_0
   try clear hcz16_1
   try clear hcz16_2
   try clear hcz16_3
   try clear hcz16_4
   try clear hcz16_5
   try clear hcz16_6
   try clear hcz16_7
   try clear hcz17_0
   try clear hcz17_1
   try clear hcz17_2
   try clear hcz17_3
   try clear hcz17_4
   try clear hcz17_5
   try clear hcz17_6
   try clear hcz17_7
   try clear hcz19_0
   try clear hcz19_1
   try clear hcz19_2
   try clear hcz19_3
   try clear hcz19_4
   try clear hcz19_5
   try clear hcz19_6
   try clear hcz19_7
   try clear hcz20_0
   try clear hcz20_1
   try clear hcz20_2
   try clear hcz20_3
   try clear hcz20_4
   try clear hcz20_5
   try clear hcz20_6
   try clear hcz20_7
   try clear hcz25_0
   try clear hcz25_1
   try clear hcz25_2
   try clear hcz25_3
   try clear hcz25_4
   try clear hcz25_5
   try clear hcz25_6
   try clear hcz25_7
   try clear hcz26_0
   try clear hcz26_1
   try clear hcz26_2
   try clear hcz26_3
   try clear hcz26_4
   try clear hcz26_5
   try clear hcz26_6
   try clear hcz26_7
   try clear hcz29_0
   try clear hcz29_1
   try clear hcz29_2
   try clear hcz29_3
   try clear hcz29_4
   try clear hcz29_5
   try clear hcz29_6
   try clear hcz29_7
   try clear hcz30_0
   try clear hcz30_1
   try clear hcz30_2
   try clear hcz30_3
   try clear hcz30_4
   try clear hcz30_5
   try clear hcz30_6
   try clear hcz30_7
   try clear hfz12_0
   try clear hfz12_1
   try clear hfz12_2
   try clear hfz12_3
   try clear hfz12_4
   try clear hfz12_5
   try clear hfz12_6
   try clear hfz12_7
   try clear hfz14_0
   try clear hfz14_1
   try clear hfz14_2
   try clear hfz14_3
   try clear hfz14_4
   try clear hfz14_5
   try clear hfz14_6
   try clear hfz14_7
   try clear hfz16_0
   try clear hfz16_1
   try clear hfz16_2
   try clear hfz16_3
   try clear hfz16_4
   try clear hfz16_5
   try clear hfz16_6
   try clear hfz16_7
   try clear hfz17_0
   try clear hfz17_1
   try clear hfz17_2
   try clear hfz17_3
   try clear hfz17_4
   try clear hfz17_5
   try clear hfz17_6
   try clear hfz17_7
   try clear hfz19_0
   try clear hfz19_1
   try clear hfz19_2
   try clear hfz19_3
   try clear hfz19_4
   try clear hfz19_5
   try clear hfz19_6
   try clear hfz19_7
   try clear hfz20_0
   try clear hfz20_1
   try clear hfz20_2
   try clear hfz20_3
   try clear hfz20_4
   try clear hfz20_5
   try clear hfz20_6
   try clear hfz20_7
   try clear hfz25_0
   try clear hfz25_1
   try clear hfz25_2
   try clear hfz25_3
   try clear hfz25_4
   try clear hfz25_5
   try clear hfz25_6
   try clear hfz25_7
   try clear hfz26_0
   try clear hfz26_1
   try clear hfz26_2
   try clear hfz26_3
   try clear hfz26_4
   try clear hfz26_5
   try clear hfz26_6
   try clear hfz26_7
   try clear hfz29_0
   try clear hfz29_1
   try clear hfz29_2
   try clear hfz29_3
   try clear hfz29_4
   try clear hfz29_5
   try clear hfz29_6
   try clear hfz29_7
   try clear hfz30_0
   try clear hfz30_1
   try clear hfz30_2
   try clear hfz30_3
   try clear hfz30_4
   try clear hfz30_5
   try clear hfz30_6
   try clear hfz30_7
   obtain ⟨kq, x30_6, rfl, HA, HJ6, BK273, BK274, HB⟩ := hcut
   cases kq with
   | zero => exact absurd HA.out (by simp [laws_FnDateOrder.j0])
   | succ kj6 =>
    have H := HA.out
    clear HA
    simp only [laws_FnDateOrder.j0] at H
    by_cases c32 : x30_6 = true
    ·subst c32
     have H1 : ((spec_CompareDate.f kj6 t257 t258 t259 t260 t261 t262 t263 t264 t265 t266 t267 t268 t269 t270 t271 t272).bind fun t278 => (if t275 = t278 then (some (t276 == t275)) else (some false))) = some r := by rw [if_pos rfl] at H; exact H
     clear H
     have H := H1
     clear H1
     replace H := Option.bind_eq_some_iff.mp H
     obtain ⟨t278, A330, H⟩ := H
     replace H : (if t275 = t278 then (some (t276 == t275)) else (some false)) = some r := H
     have A33 := Aside0.mk A330
     clear A330
     by_cases c34 : t275 = t278
     ·rw [if_pos c34] at H
      have c34b0 : (t275 == t278) = true := beq_iff_eq.mpr c34
      have c34b1 : (t275 != t278) = false := bne_eq_false_iff_eq.mpr c34
      clear c34
      obtain rfl := Option.some.inj H
      have hnb35 := NB273_274.out
      have hnc35 := NB274_273.out
      have hcz36_0 : wc.cell? ⟨gb273, 0, none⟩ = some (.int .i64 t257) := (blk_cell BK273.out 0).trans rfl
      have hcz36_1 : wc.cell? ⟨gb273, 1, none⟩ = some (.int .i64 t258) := (blk_cell BK273.out 1).trans rfl
      have hcz36_2 : wc.cell? ⟨gb273, 2, none⟩ = some (.int .i64 t259) := (blk_cell BK273.out 2).trans rfl
      have hcz36_3 : wc.cell? ⟨gb273, 3, none⟩ = some (.int .i64 t260) := (blk_cell BK273.out 3).trans rfl
      have hcz36_4 : wc.cell? ⟨gb273, 4, none⟩ = some (.int .i64 t261) := (blk_cell BK273.out 4).trans rfl
      have hcz36_5 : wc.cell? ⟨gb273, 5, none⟩ = some (.int .i64 t262) := (blk_cell BK273.out 5).trans rfl
      have hcz36_6 : wc.cell? ⟨gb273, 6, none⟩ = some (.bool t263) := (blk_cell BK273.out 6).trans rfl
      have hcz36_7 : wc.cell? ⟨gb273, 7, none⟩ = some (.int .i64 t264) := (blk_cell BK273.out 7).trans rfl
      have hfz36_0 := blk_frozen BK273.out 0
      have hfz36_1 := blk_frozen BK273.out 1
      have hfz36_2 := blk_frozen BK273.out 2
      have hfz36_3 := blk_frozen BK273.out 3
      have hfz36_4 := blk_frozen BK273.out 4
      have hfz36_5 := blk_frozen BK273.out 5
      have hfz36_6 := blk_frozen BK273.out 6
      have hfz36_7 := blk_frozen BK273.out 7
      have hcz37_0 : wc.cell? ⟨gb274, 0, none⟩ = some (.int .i64 t265) := (blk_cell BK274.out 0).trans rfl
      have hcz37_1 : wc.cell? ⟨gb274, 1, none⟩ = some (.int .i64 t266) := (blk_cell BK274.out 1).trans rfl
      have hcz37_2 : wc.cell? ⟨gb274, 2, none⟩ = some (.int .i64 t267) := (blk_cell BK274.out 2).trans rfl
      have hcz37_3 : wc.cell? ⟨gb274, 3, none⟩ = some (.int .i64 t268) := (blk_cell BK274.out 3).trans rfl
      have hcz37_4 : wc.cell? ⟨gb274, 4, none⟩ = some (.int .i64 t269) := (blk_cell BK274.out 4).trans rfl
      have hcz37_5 : wc.cell? ⟨gb274, 5, none⟩ = some (.int .i64 t270) := (blk_cell BK274.out 5).trans rfl
      have hcz37_6 : wc.cell? ⟨gb274, 6, none⟩ = some (.bool t271) := (blk_cell BK274.out 6).trans rfl
      have hcz37_7 : wc.cell? ⟨gb274, 7, none⟩ = some (.int .i64 t272) := (blk_cell BK274.out 7).trans rfl
      have hfz37_0 := blk_frozen BK274.out 0
      have hfz37_1 := blk_frozen BK274.out 1
      have hfz37_2 := blk_frozen BK274.out 2
      have hfz37_3 := blk_frozen BK274.out 3
      have hfz37_4 := blk_frozen BK274.out 4
      have hfz37_5 := blk_frozen BK274.out 5
      have hfz37_6 := blk_frozen BK274.out 6
      have hfz37_7 := blk_frozen BK274.out 7
      go_wp2_with (first | ((with_reducible refine gate_callee (f := 22) rfl ?_); refine goesL_ (some 34) rfl rfl Try.func22 (by kernel_rfl) rfl #[.agg #[.int .i64 t257, .int .i64 t258, .int .i64 t259, .int .i64 t260, .int .i64 t261, .int .i64 t262, .bool t263, .int .i64 t264], .agg #[.int .i64 t265, .int .i64 t266, .int .i64 t267, .int .i64 t268, .int .i64 t269, .int .i64 t270, .bool t271, .int .i64 t272]] rfl (by (try simp only [List.map_toArray, List.map_cons, List.map_nil]); first | done | rfl | (simp only [List.length_drop, List.length_take]; rfl)) ?_; (with_reducible refine (spec_CompareDate.calls kj6 t257 t258 t259 t260 t261 t262 t263 t264 t265 t266 t267 t268 t269 t270 t271 t272 t278 _ A33.out).mono ?_); rintro e w38 ⟨rfl, hb⟩; refine ⟨_, rfl, ?_⟩; have n0_ := Aside0.mk (blk_below (g := gb273) (o := .cells #[.int .i64 t257, .int .i64 t258, .int .i64 t259, .int .i64 t260, .int .i64 t261, .int .i64 t262, .bool t263, .int .i64 t264] 29 (0, 0)) (by (with_reducible repeat (first | refine blk_drewN ?_ _ | refine blk_drew ?_ | refine blk_alloc ?_ _)); exact BK273.out) hb); have n1_ := Aside0.mk (blk_below (g := gb274) (o := .cells #[.int .i64 t265, .int .i64 t266, .int .i64 t267, .int .i64 t268, .int .i64 t269, .int .i64 t270, .bool t271, .int .i64 t272] 29 (0, 0)) (by (with_reducible repeat (first | refine blk_drewN ?_ _ | refine blk_drew ?_ | refine blk_alloc ?_ _)); exact BK274.out) hb); have n2_ := Aside0.mk (below_step (by repeat (first | (with_reducible first | exact HB.out | apply below_alloc | apply pw_below_drewN | apply below_drew1 | refine below_set ?_ GE273.out | refine below_set ?_ GE274.out) | exact HB.out)) hb); clear BK273; clear BK274; clear HB; have BK273 := n0_; have BK274 := n1_; have HB := n2_; clear n0_ n1_ n2_; (try clear hb); (try clear hb2); (try clear hk); (try clear hi)))
      go_ret
      exact ⟨by first | rfl | (simp [*] <;> rfl), by repeat (first | (with_reducible first | exact HB.out | apply below_alloc | apply pw_below_drewN | apply below_drew1 | refine below_set ?_ GE273.out | refine below_set ?_ GE274.out) | exact HB.out)⟩
     ·rw [if_neg c34] at H
      have c34b0 : (t275 == t278) = false := beq_eq_false_iff_ne.mpr c34
      have c34b1 : (t275 != t278) = true := bne_iff_ne.mpr c34
      exact absurd ((Option.some.inj H).trans HRT.out) (by decide)
    ·replace c32 := Bool.eq_false_iff.mpr c32
     subst c32
     have H1 : ((impl_SecondsOf.f kj6 t257 t258 t259 t260 t261 t262 t263 t264).bind fun t279 => ((impl_SecondsOf.f kj6 t265 t266 t267 t268 t269 t270 t271 t272).bind fun t280 => (if t276 = (wrap64 (-t275)) then (if t275 = (-1) then (if t279 < t280 then (if t275 = 1 then (if t279 > t280 then (if t275 = 0 then (if t279 = t280 then (if (t263 != t271) = true then (some true) else (if ((decide (t279 < t280)) == (t275 == (-1))) = true then (some ((decide (t279 > t280)) == (t275 == 1))) else (some false))) else (some false)) else (if (t263 != t271) = true then (some true) else (if ((decide (t279 < t280)) == (t275 == (-1))) = true then (some ((decide (t279 > t280)) == (t275 == 1))) else (some false)))) else (some false)) else (if t275 = 0 then (if t279 = t280 then (if (t263 != t271) = true then (some true) else (if ((decide (t279 < t280)) == (t275 == (-1))) = true then (some ((decide (t279 > t280)) == (t275 == 1))) else (some false))) else (some false)) else (if (t263 != t271) = true then (some true) else (if ((decide (t279 < t280)) == (t275 == (-1))) = true then (some ((decide (t279 > t280)) == (t275 == 1))) else (some false))))) else (some false)) else (if t275 = 1 then (if t279 > t280 then (if t275 = 0 then (if t279 = t280 then (if (t263 != t271) = true then (some true) else (if ((decide (t279 < t280)) == (t275 == (-1))) = true then (some ((decide (t279 > t280)) == (t275 == 1))) else (some false))) else (some false)) else (if (t263 != t271) = true then (some true) else (if ((decide (t279 < t280)) == (t275 == (-1))) = true then (some ((decide (t279 > t280)) == (t275 == 1))) else (some false)))) else (some false)) else (if t275 = 0 then (if t279 = t280 then (if (t263 != t271) = true then (some true) else (if ((decide (t279 < t280)) == (t275 == (-1))) = true then (some ((decide (t279 > t280)) == (t275 == 1))) else (some false))) else (some false)) else (if (t263 != t271) = true then (some true) else (if ((decide (t279 < t280)) == (t275 == (-1))) = true then (some ((decide (t279 > t280)) == (t275 == 1))) else (some false)))))) else (some false)))) = some r := by rw [if_neg (show ¬ (false = true) by decide)] at H; exact H
     clear H
     have H := H1
     clear H1
     replace H := Option.bind_eq_some_iff.mp H
     obtain ⟨t279, A430, H⟩ := H
     replace H : ((impl_SecondsOf.f kj6 t265 t266 t267 t268 t269 t270 t271 t272).bind fun t280 => (if t276 = (wrap64 (-t275)) then (if t275 = (-1) then (if t279 < t280 then (if t275 = 1 then (if t279 > t280 then (if t275 = 0 then (if t279 = t280 then (if (t263 != t271) = true then (some true) else (if ((decide (t279 < t280)) == (t275 == (-1))) = true then (some ((decide (t279 > t280)) == (t275 == 1))) else (some false))) else (some false)) else (if (t263 != t271) = true then (some true) else (if ((decide (t279 < t280)) == (t275 == (-1))) = true then (some ((decide (t279 > t280)) == (t275 == 1))) else (some false)))) else (some false)) else (if t275 = 0 then (if t279 = t280 then (if (t263 != t271) = true then (some true) else (if ((decide (t279 < t280)) == (t275 == (-1))) = true then (some ((decide (t279 > t280)) == (t275 == 1))) else (some false))) else (some false)) else (if (t263 != t271) = true then (some true) else (if ((decide (t279 < t280)) == (t275 == (-1))) = true then (some ((decide (t279 > t280)) == (t275 == 1))) else (some false))))) else (some false)) else (if t275 = 1 then (if t279 > t280 then (if t275 = 0 then (if t279 = t280 then (if (t263 != t271) = true then (some true) else (if ((decide (t279 < t280)) == (t275 == (-1))) = true then (some ((decide (t279 > t280)) == (t275 == 1))) else (some false))) else (some false)) else (if (t263 != t271) = true then (some true) else (if ((decide (t279 < t280)) == (t275 == (-1))) = true then (some ((decide (t279 > t280)) == (t275 == 1))) else (some false)))) else (some false)) else (if t275 = 0 then (if t279 = t280 then (if (t263 != t271) = true then (some true) else (if ((decide (t279 < t280)) == (t275 == (-1))) = true then (some ((decide (t279 > t280)) == (t275 == 1))) else (some false))) else (some false)) else (if (t263 != t271) = true then (some true) else (if ((decide (t279 < t280)) == (t275 == (-1))) = true then (some ((decide (t279 > t280)) == (t275 == 1))) else (some false)))))) else (some false))) = some r := H
     have A43 := Aside0.mk A430
     clear A430
     replace H := Option.bind_eq_some_iff.mp H
     obtain ⟨t280, A440, H⟩ := H
     replace H : (if t276 = (wrap64 (-t275)) then (if t275 = (-1) then (if t279 < t280 then (if t275 = 1 then (if t279 > t280 then (if t275 = 0 then (if t279 = t280 then (if (t263 != t271) = true then (some true) else (if ((decide (t279 < t280)) == (t275 == (-1))) = true then (some ((decide (t279 > t280)) == (t275 == 1))) else (some false))) else (some false)) else (if (t263 != t271) = true then (some true) else (if ((decide (t279 < t280)) == (t275 == (-1))) = true then (some ((decide (t279 > t280)) == (t275 == 1))) else (some false)))) else (some false)) else (if t275 = 0 then (if t279 = t280 then (if (t263 != t271) = true then (some true) else (if ((decide (t279 < t280)) == (t275 == (-1))) = true then (some ((decide (t279 > t280)) == (t275 == 1))) else (some false))) else (some false)) else (if (t263 != t271) = true then (some true) else (if ((decide (t279 < t280)) == (t275 == (-1))) = true then (some ((decide (t279 > t280)) == (t275 == 1))) else (some false))))) else (some false)) else (if t275 = 1 then (if t279 > t280 then (if t275 = 0 then (if t279 = t280 then (if (t263 != t271) = true then (some true) else (if ((decide (t279 < t280)) == (t275 == (-1))) = true then (some ((decide (t279 > t280)) == (t275 == 1))) else (some false))) else (some false)) else (if (t263 != t271) = true then (some true) else (if ((decide (t279 < t280)) == (t275 == (-1))) = true then (some ((decide (t279 > t280)) == (t275 == 1))) else (some false)))) else (some false)) else (if t275 = 0 then (if t279 = t280 then (if (t263 != t271) = true then (some true) else (if ((decide (t279 < t280)) == (t275 == (-1))) = true then (some ((decide (t279 > t280)) == (t275 == 1))) else (some false))) else (some false)) else (if (t263 != t271) = true then (some true) else (if ((decide (t279 < t280)) == (t275 == (-1))) = true then (some ((decide (t279 > t280)) == (t275 == 1))) else (some false)))))) else (some false)) = some r := H
     have A44 := Aside0.mk A440
     clear A440
     by_cases c45 : t276 = (wrap64 (-t275))
     ·rw [if_pos c45] at H
      have c45b0 : (t276 == (wrap64 (-t275))) = true := beq_iff_eq.mpr c45
      have c45b1 : (t276 != (wrap64 (-t275))) = false := bne_eq_false_iff_eq.mpr c45
      clear c45
      by_cases c46 : t275 = (-1)
      ·rw [if_pos c46] at H
       have c46b0 : (t275 == (-1)) = true := beq_iff_eq.mpr c46
       have c46b1 : (t275 != (-1)) = false := bne_eq_false_iff_eq.mpr c46
       clear c46
       by_cases c47 : t279 < t280
       ·rw [if_pos c47] at H
        have c47b0 : decide (t279 < t280) = true := decide_eq_true c47
        clear c47
        by_cases c48 : t275 = 1
        ·rw [if_pos c48] at H
         have c48b0 : (t275 == 1) = true := beq_iff_eq.mpr c48
         have c48b1 : (t275 != 1) = false := bne_eq_false_iff_eq.mpr c48
         clear c48
         by_cases c49 : t279 > t280
         ·rw [if_pos c49] at H
          have c49b0 : decide (t280 < t279) = true := decide_eq_true c49
          clear c49
          by_cases c50 : t275 = 0
          ·rw [if_pos c50] at H
           have c50b0 : (t275 == 0) = true := beq_iff_eq.mpr c50
           have c50b1 : (t275 != 0) = false := bne_eq_false_iff_eq.mpr c50
           clear c50
           by_cases c51 : t279 = t280
           ·rw [if_pos c51] at H
            have c51b0 : (t279 == t280) = true := beq_iff_eq.mpr c51
            have c51b1 : (t279 != t280) = false := bne_eq_false_iff_eq.mpr c51
            clear c51
            by_cases c52 : (t263 != t271) = true
            ·rw [if_pos c52] at H
             have c52b0 : (t263 != t271) = true := c52
             (try (have c52b1 : decide (t263 = t271) = false := by simpa using c52))
             (try (have c52b2 : (t263 == t271) = false := by simpa using c52))
             (try (have c52b3 : ¬ (t263 = t271) := by simpa using c52))
             clear c52
             obtain rfl := Option.some.inj H
             have hnb53 := NB273_274.out
             have hnc53 := NB274_273.out
             have hcz54_0 : wc.cell? ⟨gb273, 0, none⟩ = some (.int .i64 t257) := (blk_cell BK273.out 0).trans rfl
             have hcz54_1 : wc.cell? ⟨gb273, 1, none⟩ = some (.int .i64 t258) := (blk_cell BK273.out 1).trans rfl
             have hcz54_2 : wc.cell? ⟨gb273, 2, none⟩ = some (.int .i64 t259) := (blk_cell BK273.out 2).trans rfl
             have hcz54_3 : wc.cell? ⟨gb273, 3, none⟩ = some (.int .i64 t260) := (blk_cell BK273.out 3).trans rfl
             have hcz54_4 : wc.cell? ⟨gb273, 4, none⟩ = some (.int .i64 t261) := (blk_cell BK273.out 4).trans rfl
             have hcz54_5 : wc.cell? ⟨gb273, 5, none⟩ = some (.int .i64 t262) := (blk_cell BK273.out 5).trans rfl
             have hcz54_6 : wc.cell? ⟨gb273, 6, none⟩ = some (.bool t263) := (blk_cell BK273.out 6).trans rfl
             have hcz54_7 : wc.cell? ⟨gb273, 7, none⟩ = some (.int .i64 t264) := (blk_cell BK273.out 7).trans rfl
             have hfz54_0 := blk_frozen BK273.out 0
             have hfz54_1 := blk_frozen BK273.out 1
             have hfz54_2 := blk_frozen BK273.out 2
             have hfz54_3 := blk_frozen BK273.out 3
             have hfz54_4 := blk_frozen BK273.out 4
             have hfz54_5 := blk_frozen BK273.out 5
             have hfz54_6 := blk_frozen BK273.out 6
             have hfz54_7 := blk_frozen BK273.out 7
             go_wp2_with (first | ((with_reducible refine gate_callee (f := 21) rfl ?_); refine goesL_ (some 42) rfl rfl Try.func21 (by kernel_rfl) rfl #[.agg #[.int .i64 t257, .int .i64 t258, .int .i64 t259, .int .i64 t260, .int .i64 t261, .int .i64 t262, .bool t263, .int .i64 t264]] rfl (by (try simp only [List.map_toArray, List.map_cons, List.map_nil]); first | done | rfl | (simp only [List.length_drop, List.length_take]; rfl)) ?_; (with_reducible refine (impl_SecondsOf.calls kj6 t257 t258 t259 t260 t261 t262 t263 t264 t279 _ A43.out).mono ?_); rintro e w55 ⟨rfl, hb⟩; refine ⟨_, rfl, ?_⟩; have n0_ := Aside0.mk (blk_below (g := gb273) (o := .cells #[.int .i64 t257, .int .i64 t258, .int .i64 t259, .int .i64 t260, .int .i64 t261, .int .i64 t262, .bool t263, .int .i64 t264] 29 (0, 0)) (by (with_reducible repeat (first | refine blk_drewN ?_ _ | refine blk_drew ?_ | refine blk_alloc ?_ _)); exact BK273.out) hb); have n1_ := Aside0.mk (blk_below (g := gb274) (o := .cells #[.int .i64 t265, .int .i64 t266, .int .i64 t267, .int .i64 t268, .int .i64 t269, .int .i64 t270, .bool t271, .int .i64 t272] 29 (0, 0)) (by (with_reducible repeat (first | refine blk_drewN ?_ _ | refine blk_drew ?_ | refine blk_alloc ?_ _)); exact BK274.out) hb); have n2_ := Aside0.mk (below_step (by repeat (first | (with_reducible first | exact HB.out | apply below_alloc | apply pw_below_drewN | apply below_drew1 | refine below_set ?_ GE273.out | refine below_set ?_ GE274.out) | exact HB.out)) hb); clear BK273; clear BK274; clear HB; have BK273 := n0_; have BK274 := n1_; have HB := n2_; clear n0_ n1_ n2_; (try clear hb); (try clear hb2); (try clear hk); (try clear hi); have hcz56_0 : w55.cell? ⟨gb274, 0, none⟩ = some (.int .i64 t265) := (blk_cell BK274.out 0).trans rfl; have hcz56_1 : w55.cell? ⟨gb274, 1, none⟩ = some (.int .i64 t266) := (blk_cell BK274.out 1).trans rfl; have hcz56_2 : w55.cell? ⟨gb274, 2, none⟩ = some (.int .i64 t267) := (blk_cell BK274.out 2).trans rfl; have hcz56_3 : w55.cell? ⟨gb274, 3, none⟩ = some (.int .i64 t268) := (blk_cell BK274.out 3).trans rfl; have hcz56_4 : w55.cell? ⟨gb274, 4, none⟩ = some (.int .i64 t269) := (blk_cell BK274.out 4).trans rfl; have hcz56_5 : w55.cell? ⟨gb274, 5, none⟩ = some (.int .i64 t270) := (blk_cell BK274.out 5).trans rfl; have hcz56_6 : w55.cell? ⟨gb274, 6, none⟩ = some (.bool t271) := (blk_cell BK274.out 6).trans rfl; have hcz56_7 : w55.cell? ⟨gb274, 7, none⟩ = some (.int .i64 t272) := (blk_cell BK274.out 7).trans rfl; have hfz56_0 := blk_frozen BK274.out 0; have hfz56_1 := blk_frozen BK274.out 1; have hfz56_2 := blk_frozen BK274.out 2; have hfz56_3 := blk_frozen BK274.out 3; have hfz56_4 := blk_frozen BK274.out 4; have hfz56_5 := blk_frozen BK274.out 5; have hfz56_6 := blk_frozen BK274.out 6; have hfz56_7 := blk_frozen BK274.out 7) | ((with_reducible refine gate_callee (f := 21) rfl ?_); refine goesL_ (some 44) rfl rfl Try.func21 (by kernel_rfl) rfl #[.agg #[.int .i64 t265, .int .i64 t266, .int .i64 t267, .int .i64 t268, .int .i64 t269, .int .i64 t270, .bool t271, .int .i64 t272]] rfl (by (try simp only [List.map_toArray, List.map_cons, List.map_nil]); first | done | rfl | (simp only [List.length_drop, List.length_take]; rfl)) ?_; (with_reducible refine (impl_SecondsOf.calls kj6 t265 t266 t267 t268 t269 t270 t271 t272 t280 _ A44.out).mono ?_); rintro e w57 ⟨rfl, hb⟩; refine ⟨_, rfl, ?_⟩; have n0_ := Aside0.mk (blk_below (g := gb273) (o := .cells #[.int .i64 t257, .int .i64 t258, .int .i64 t259, .int .i64 t260, .int .i64 t261, .int .i64 t262, .bool t263, .int .i64 t264] 29 (0, 0)) (by (with_reducible repeat (first | refine blk_drewN ?_ _ | refine blk_drew ?_ | refine blk_alloc ?_ _)); exact BK273.out) hb); have n1_ := Aside0.mk (blk_below (g := gb274) (o := .cells #[.int .i64 t265, .int .i64 t266, .int .i64 t267, .int .i64 t268, .int .i64 t269, .int .i64 t270, .bool t271, .int .i64 t272] 29 (0, 0)) (by (with_reducible repeat (first | refine blk_drewN ?_ _ | refine blk_drew ?_ | refine blk_alloc ?_ _)); exact BK274.out) hb); have n2_ := Aside0.mk (below_step (by repeat (first | (with_reducible first | exact HB.out | apply below_alloc | apply pw_below_drewN | apply below_drew1 | refine below_set ?_ GE273.out | refine below_set ?_ GE274.out) | exact HB.out)) hb); clear BK273; clear BK274; clear HB; have BK273 := n0_; have BK274 := n1_; have HB := n2_; clear n0_ n1_ n2_; (try clear hb); (try clear hb2); (try clear hk); (try clear hi); have hcz58_0 : w57.cell? ⟨gb273, 0, none⟩ = some (.int .i64 t257) := (blk_cell BK273.out 0).trans rfl; have hcz58_1 : w57.cell? ⟨gb273, 1, none⟩ = some (.int .i64 t258) := (blk_cell BK273.out 1).trans rfl; have hcz58_2 : w57.cell? ⟨gb273, 2, none⟩ = some (.int .i64 t259) := (blk_cell BK273.out 2).trans rfl; have hcz58_3 : w57.cell? ⟨gb273, 3, none⟩ = some (.int .i64 t260) := (blk_cell BK273.out 3).trans rfl; have hcz58_4 : w57.cell? ⟨gb273, 4, none⟩ = some (.int .i64 t261) := (blk_cell BK273.out 4).trans rfl; have hcz58_5 : w57.cell? ⟨gb273, 5, none⟩ = some (.int .i64 t262) := (blk_cell BK273.out 5).trans rfl; have hcz58_6 : w57.cell? ⟨gb273, 6, none⟩ = some (.bool t263) := (blk_cell BK273.out 6).trans rfl; have hcz58_7 : w57.cell? ⟨gb273, 7, none⟩ = some (.int .i64 t264) := (blk_cell BK273.out 7).trans rfl; have hfz58_0 := blk_frozen BK273.out 0; have hfz58_1 := blk_frozen BK273.out 1; have hfz58_2 := blk_frozen BK273.out 2; have hfz58_3 := blk_frozen BK273.out 3; have hfz58_4 := blk_frozen BK273.out 4; have hfz58_5 := blk_frozen BK273.out 5; have hfz58_6 := blk_frozen BK273.out 6; have hfz58_7 := blk_frozen BK273.out 7; have hcz59_0 : w57.cell? ⟨gb274, 0, none⟩ = some (.int .i64 t265) := (blk_cell BK274.out 0).trans rfl; have hcz59_1 : w57.cell? ⟨gb274, 1, none⟩ = some (.int .i64 t266) := (blk_cell BK274.out 1).trans rfl; have hcz59_2 : w57.cell? ⟨gb274, 2, none⟩ = some (.int .i64 t267) := (blk_cell BK274.out 2).trans rfl; have hcz59_3 : w57.cell? ⟨gb274, 3, none⟩ = some (.int .i64 t268) := (blk_cell BK274.out 3).trans rfl; have hcz59_4 : w57.cell? ⟨gb274, 4, none⟩ = some (.int .i64 t269) := (blk_cell BK274.out 4).trans rfl; have hcz59_5 : w57.cell? ⟨gb274, 5, none⟩ = some (.int .i64 t270) := (blk_cell BK274.out 5).trans rfl; have hcz59_6 : w57.cell? ⟨gb274, 6, none⟩ = some (.bool t271) := (blk_cell BK274.out 6).trans rfl; have hcz59_7 : w57.cell? ⟨gb274, 7, none⟩ = some (.int .i64 t272) := (blk_cell BK274.out 7).trans rfl; have hfz59_0 := blk_frozen BK274.out 0; have hfz59_1 := blk_frozen BK274.out 1; have hfz59_2 := blk_frozen BK274.out 2; have hfz59_3 := blk_frozen BK274.out 3; have hfz59_4 := blk_frozen BK274.out 4; have hfz59_5 := blk_frozen BK274.out 5; have hfz59_6 := blk_frozen BK274.out 6; have hfz59_7 := blk_frozen BK274.out 7))
             go_ret
             exact ⟨by first | rfl | (simp [*] <;> rfl), by repeat (first | (with_reducible first | exact HB.out | apply below_alloc | apply pw_below_drewN | apply below_drew1 | refine below_set ?_ GE273.out | refine below_set ?_ GE274.out) | exact HB.out)⟩
            ·rw [if_neg c52] at H
             have c52b0 : (t263 != t271) = false := by simpa using c52
             (try (have c52b1 : decide (t263 = t271) = true := by simpa using c52))
             (try (have c52b2 : (t263 == t271) = true := by simpa using c52))
             clear c52
             by_cases c60 : ((decide (t279 < t280)) == (t275 == (-1))) = true
             ·rw [if_pos c60] at H
              have c60b0 : ((decide (t279 < t280)) == (t275 == (-1))) = true := c60
              (try (have c60b1 : decide ((decide (t279 < t280)) = (t275 == (-1))) = true := by simpa using c60))
              (try (have c60b2 : ((decide (t279 < t280)) == (t275 == (-1))) = true := by simpa using c60))
              clear c60
              obtain ⟨z1, z2⟩ : decide (t279 < t280) = true ∧ decide (t280 < t279) = true := by
               rcases Int.lt_trichotomy t279 t280 with zl | zl | zl
               ·have z1 : decide (t279 < t280) = true := decide_eq_true zl
                have z2 : decide (t280 < t279) = false := decide_eq_false (by omega)
                exfalso; have k0 := (Option.some.inj H).trans HRT.out; have k1 := c60b0; have k2 := c51b0; have k3 := c50b0; have k4 := c49b0; have k5 := c48b0; have k6 := c47b0; have k7 := c46b0; first | (simp [z1, z2] at k0 k1 k2 k3 k4 k5 k6 k7; done) | (simp [z1, z2] at k0 k1 k2 k3 k4 k5 k6 k7; omega)
               ·have z1 : decide (t279 < t280) = false := decide_eq_false (by omega)
                have z2 : decide (t280 < t279) = false := decide_eq_false (by omega)
                exfalso; have k0 := (Option.some.inj H).trans HRT.out; have k1 := c60b0; have k2 := c51b0; have k3 := c50b0; have k4 := c49b0; have k5 := c48b0; have k6 := c47b0; have k7 := c46b0; first | (simp [z1, z2] at k0 k1 k2 k3 k4 k5 k6 k7; done) | (simp [z1, z2] at k0 k1 k2 k3 k4 k5 k6 k7; omega)
               ·have z1 : decide (t279 < t280) = false := decide_eq_false (by omega)
                have z2 : decide (t280 < t279) = true := decide_eq_true zl
                exfalso; have k0 := (Option.some.inj H).trans HRT.out; have k1 := c60b0; have k2 := c51b0; have k3 := c50b0; have k4 := c49b0; have k5 := c48b0; have k6 := c47b0; have k7 := c46b0; first | (simp [z1, z2] at k0 k1 k2 k3 k4 k5 k6 k7; done) | (simp [z1, z2] at k0 k1 k2 k3 k4 k5 k6 k7; omega)
              obtain rfl := Option.some.inj H
              have hnb61 := NB273_274.out
              have hnc61 := NB274_273.out
              have hcz62_0 : wc.cell? ⟨gb273, 0, none⟩ = some (.int .i64 t257) := (blk_cell BK273.out 0).trans rfl
              have hcz62_1 : wc.cell? ⟨gb273, 1, none⟩ = some (.int .i64 t258) := (blk_cell BK273.out 1).trans rfl
              have hcz62_2 : wc.cell? ⟨gb273, 2, none⟩ = some (.int .i64 t259) := (blk_cell BK273.out 2).trans rfl
              have hcz62_3 : wc.cell? ⟨gb273, 3, none⟩ = some (.int .i64 t260) := (blk_cell BK273.out 3).trans rfl
              have hcz62_4 : wc.cell? ⟨gb273, 4, none⟩ = some (.int .i64 t261) := (blk_cell BK273.out 4).trans rfl
              have hcz62_5 : wc.cell? ⟨gb273, 5, none⟩ = some (.int .i64 t262) := (blk_cell BK273.out 5).trans rfl
              have hcz62_6 : wc.cell? ⟨gb273, 6, none⟩ = some (.bool t263) := (blk_cell BK273.out 6).trans rfl
              have hcz62_7 : wc.cell? ⟨gb273, 7, none⟩ = some (.int .i64 t264) := (blk_cell BK273.out 7).trans rfl
              have hfz62_0 := blk_frozen BK273.out 0
              have hfz62_1 := blk_frozen BK273.out 1
              have hfz62_2 := blk_frozen BK273.out 2
              have hfz62_3 := blk_frozen BK273.out 3
              have hfz62_4 := blk_frozen BK273.out 4
              have hfz62_5 := blk_frozen BK273.out 5
              have hfz62_6 := blk_frozen BK273.out 6
              have hfz62_7 := blk_frozen BK273.out 7
              go_wp2_with (first | ((with_reducible refine gate_callee (f := 21) rfl ?_); refine goesL_ (some 42) rfl rfl Try.func21 (by kernel_rfl) rfl #[.agg #[.int .i64 t257, .int .i64 t258, .int .i64 t259, .int .i64 t260, .int .i64 t261, .int .i64 t262, .bool t263, .int .i64 t264]] rfl (by (try simp only [List.map_toArray, List.map_cons, List.map_nil]); first | done | rfl | (simp only [List.length_drop, List.length_take]; rfl)) ?_; (with_reducible refine (impl_SecondsOf.calls kj6 t257 t258 t259 t260 t261 t262 t263 t264 t279 _ A43.out).mono ?_); rintro e w63 ⟨rfl, hb⟩; refine ⟨_, rfl, ?_⟩; have n0_ := Aside0.mk (blk_below (g := gb273) (o := .cells #[.int .i64 t257, .int .i64 t258, .int .i64 t259, .int .i64 t260, .int .i64 t261, .int .i64 t262, .bool t263, .int .i64 t264] 29 (0, 0)) (by (with_reducible repeat (first | refine blk_drewN ?_ _ | refine blk_drew ?_ | refine blk_alloc ?_ _)); exact BK273.out) hb); have n1_ := Aside0.mk (blk_below (g := gb274) (o := .cells #[.int .i64 t265, .int .i64 t266, .int .i64 t267, .int .i64 t268, .int .i64 t269, .int .i64 t270, .bool t271, .int .i64 t272] 29 (0, 0)) (by (with_reducible repeat (first | refine blk_drewN ?_ _ | refine blk_drew ?_ | refine blk_alloc ?_ _)); exact BK274.out) hb); have n2_ := Aside0.mk (below_step (by repeat (first | (with_reducible first | exact HB.out | apply below_alloc | apply pw_below_drewN | apply below_drew1 | refine below_set ?_ GE273.out | refine below_set ?_ GE274.out) | exact HB.out)) hb); clear BK273; clear BK274; clear HB; have BK273 := n0_; have BK274 := n1_; have HB := n2_; clear n0_ n1_ n2_; (try clear hb); (try clear hb2); (try clear hk); (try clear hi); have hcz64_0 : w63.cell? ⟨gb274, 0, none⟩ = some (.int .i64 t265) := (blk_cell BK274.out 0).trans rfl; have hcz64_1 : w63.cell? ⟨gb274, 1, none⟩ = some (.int .i64 t266) := (blk_cell BK274.out 1).trans rfl; have hcz64_2 : w63.cell? ⟨gb274, 2, none⟩ = some (.int .i64 t267) := (blk_cell BK274.out 2).trans rfl; have hcz64_3 : w63.cell? ⟨gb274, 3, none⟩ = some (.int .i64 t268) := (blk_cell BK274.out 3).trans rfl; have hcz64_4 : w63.cell? ⟨gb274, 4, none⟩ = some (.int .i64 t269) := (blk_cell BK274.out 4).trans rfl; have hcz64_5 : w63.cell? ⟨gb274, 5, none⟩ = some (.int .i64 t270) := (blk_cell BK274.out 5).trans rfl; have hcz64_6 : w63.cell? ⟨gb274, 6, none⟩ = some (.bool t271) := (blk_cell BK274.out 6).trans rfl; have hcz64_7 : w63.cell? ⟨gb274, 7, none⟩ = some (.int .i64 t272) := (blk_cell BK274.out 7).trans rfl; have hfz64_0 := blk_frozen BK274.out 0; have hfz64_1 := blk_frozen BK274.out 1; have hfz64_2 := blk_frozen BK274.out 2; have hfz64_3 := blk_frozen BK274.out 3; have hfz64_4 := blk_frozen BK274.out 4; have hfz64_5 := blk_frozen BK274.out 5; have hfz64_6 := blk_frozen BK274.out 6; have hfz64_7 := blk_frozen BK274.out 7) | ((with_reducible refine gate_callee (f := 21) rfl ?_); refine goesL_ (some 44) rfl rfl Try.func21 (by kernel_rfl) rfl #[.agg #[.int .i64 t265, .int .i64 t266, .int .i64 t267, .int .i64 t268, .int .i64 t269, .int .i64 t270, .bool t271, .int .i64 t272]] rfl (by (try simp only [List.map_toArray, List.map_cons, List.map_nil]); first | done | rfl | (simp only [List.length_drop, List.length_take]; rfl)) ?_; (with_reducible refine (impl_SecondsOf.calls kj6 t265 t266 t267 t268 t269 t270 t271 t272 t280 _ A44.out).mono ?_); rintro e w65 ⟨rfl, hb⟩; refine ⟨_, rfl, ?_⟩; have n0_ := Aside0.mk (blk_below (g := gb273) (o := .cells #[.int .i64 t257, .int .i64 t258, .int .i64 t259, .int .i64 t260, .int .i64 t261, .int .i64 t262, .bool t263, .int .i64 t264] 29 (0, 0)) (by (with_reducible repeat (first | refine blk_drewN ?_ _ | refine blk_drew ?_ | refine blk_alloc ?_ _)); exact BK273.out) hb); have n1_ := Aside0.mk (blk_below (g := gb274) (o := .cells #[.int .i64 t265, .int .i64 t266, .int .i64 t267, .int .i64 t268, .int .i64 t269, .int .i64 t270, .bool t271, .int .i64 t272] 29 (0, 0)) (by (with_reducible repeat (first | refine blk_drewN ?_ _ | refine blk_drew ?_ | refine blk_alloc ?_ _)); exact BK274.out) hb); have n2_ := Aside0.mk (below_step (by repeat (first | (with_reducible first | exact HB.out | apply below_alloc | apply pw_below_drewN | apply below_drew1 | refine below_set ?_ GE273.out | refine below_set ?_ GE274.out) | exact HB.out)) hb); clear BK273; clear BK274; clear HB; have BK273 := n0_; have BK274 := n1_; have HB := n2_; clear n0_ n1_ n2_; (try clear hb); (try clear hb2); (try clear hk); (try clear hi); have hcz66_0 : w65.cell? ⟨gb273, 0, none⟩ = some (.int .i64 t257) := (blk_cell BK273.out 0).trans rfl; have hcz66_1 : w65.cell? ⟨gb273, 1, none⟩ = some (.int .i64 t258) := (blk_cell BK273.out 1).trans rfl; have hcz66_2 : w65.cell? ⟨gb273, 2, none⟩ = some (.int .i64 t259) := (blk_cell BK273.out 2).trans rfl; have hcz66_3 : w65.cell? ⟨gb273, 3, none⟩ = some (.int .i64 t260) := (blk_cell BK273.out 3).trans rfl; have hcz66_4 : w65.cell? ⟨gb273, 4, none⟩ = some (.int .i64 t261) := (blk_cell BK273.out 4).trans rfl; have hcz66_5 : w65.cell? ⟨gb273, 5, none⟩ = some (.int .i64 t262) := (blk_cell BK273.out 5).trans rfl; have hcz66_6 : w65.cell? ⟨gb273, 6, none⟩ = some (.bool t263) := (blk_cell BK273.out 6).trans rfl; have hcz66_7 : w65.cell? ⟨gb273, 7, none⟩ = some (.int .i64 t264) := (blk_cell BK273.out 7).trans rfl; have hfz66_0 := blk_frozen BK273.out 0; have hfz66_1 := blk_frozen BK273.out 1; have hfz66_2 := blk_frozen BK273.out 2; have hfz66_3 := blk_frozen BK273.out 3; have hfz66_4 := blk_frozen BK273.out 4; have hfz66_5 := blk_frozen BK273.out 5; have hfz66_6 := blk_frozen BK273.out 6; have hfz66_7 := blk_frozen BK273.out 7; have hcz67_0 : w65.cell? ⟨gb274, 0, none⟩ = some (.int .i64 t265) := (blk_cell BK274.out 0).trans rfl; have hcz67_1 : w65.cell? ⟨gb274, 1, none⟩ = some (.int .i64 t266) := (blk_cell BK274.out 1).trans rfl; have hcz67_2 : w65.cell? ⟨gb274, 2, none⟩ = some (.int .i64 t267) := (blk_cell BK274.out 2).trans rfl; have hcz67_3 : w65.cell? ⟨gb274, 3, none⟩ = some (.int .i64 t268) := (blk_cell BK274.out 3).trans rfl; have hcz67_4 : w65.cell? ⟨gb274, 4, none⟩ = some (.int .i64 t269) := (blk_cell BK274.out 4).trans rfl; have hcz67_5 : w65.cell? ⟨gb274, 5, none⟩ = some (.int .i64 t270) := (blk_cell BK274.out 5).trans rfl; have hcz67_6 : w65.cell? ⟨gb274, 6, none⟩ = some (.bool t271) := (blk_cell BK274.out 6).trans rfl; have hcz67_7 : w65.cell? ⟨gb274, 7, none⟩ = some (.int .i64 t272) := (blk_cell BK274.out 7).trans rfl; have hfz67_0 := blk_frozen BK274.out 0; have hfz67_1 := blk_frozen BK274.out 1; have hfz67_2 := blk_frozen BK274.out 2; have hfz67_3 := blk_frozen BK274.out 3; have hfz67_4 := blk_frozen BK274.out 4; have hfz67_5 := blk_frozen BK274.out 5; have hfz67_6 := blk_frozen BK274.out 6; have hfz67_7 := blk_frozen BK274.out 7))
              go_ret
              exact ⟨by first | rfl | (simp [*] <;> rfl), by repeat (first | (with_reducible first | exact HB.out | apply below_alloc | apply pw_below_drewN | apply below_drew1 | refine below_set ?_ GE273.out | refine below_set ?_ GE274.out) | exact HB.out)⟩
             ·rw [if_neg c60] at H
              have c60b0 : ((decide (t279 < t280)) == (t275 == (-1))) = false := by simpa using c60
              (try (have c60b1 : decide ((decide (t279 < t280)) = (t275 == (-1))) = false := by simpa using c60))
              (try (have c60b2 : ((decide (t279 < t280)) == (t275 == (-1))) = false := by simpa using c60))
              (try (have c60b3 : ¬ ((decide (t279 < t280)) = (t275 == (-1))) := by simpa using c60))
              clear c60
              exact absurd ((Option.some.inj H).trans HRT.out) (by decide)
           ·rw [if_neg c51] at H
            have c51b0 : (t279 == t280) = false := beq_eq_false_iff_ne.mpr c51
            have c51b1 : (t279 != t280) = true := bne_iff_ne.mpr c51
            exact absurd ((Option.some.inj H).trans HRT.out) (by decide)
          ·rw [if_neg c50] at H
           have c50b0 : (t275 == 0) = false := beq_eq_false_iff_ne.mpr c50
           have c50b1 : (t275 != 0) = true := bne_iff_ne.mpr c50
           by_cases c80 : (t263 != t271) = true
           ·rw [if_pos c80] at H
            have c80b0 : (t263 != t271) = true := c80
            (try (have c80b1 : decide (t263 = t271) = false := by simpa using c80))
            (try (have c80b2 : (t263 == t271) = false := by simpa using c80))
            (try (have c80b3 : ¬ (t263 = t271) := by simpa using c80))
            clear c80
            obtain rfl := Option.some.inj H
            have hnb81 := NB273_274.out
            have hnc81 := NB274_273.out
            have hcz82_0 : wc.cell? ⟨gb273, 0, none⟩ = some (.int .i64 t257) := (blk_cell BK273.out 0).trans rfl
            have hcz82_1 : wc.cell? ⟨gb273, 1, none⟩ = some (.int .i64 t258) := (blk_cell BK273.out 1).trans rfl
            have hcz82_2 : wc.cell? ⟨gb273, 2, none⟩ = some (.int .i64 t259) := (blk_cell BK273.out 2).trans rfl
            have hcz82_3 : wc.cell? ⟨gb273, 3, none⟩ = some (.int .i64 t260) := (blk_cell BK273.out 3).trans rfl
            have hcz82_4 : wc.cell? ⟨gb273, 4, none⟩ = some (.int .i64 t261) := (blk_cell BK273.out 4).trans rfl
            have hcz82_5 : wc.cell? ⟨gb273, 5, none⟩ = some (.int .i64 t262) := (blk_cell BK273.out 5).trans rfl
            have hcz82_6 : wc.cell? ⟨gb273, 6, none⟩ = some (.bool t263) := (blk_cell BK273.out 6).trans rfl
            have hcz82_7 : wc.cell? ⟨gb273, 7, none⟩ = some (.int .i64 t264) := (blk_cell BK273.out 7).trans rfl
            have hfz82_0 := blk_frozen BK273.out 0
            have hfz82_1 := blk_frozen BK273.out 1
            have hfz82_2 := blk_frozen BK273.out 2
            have hfz82_3 := blk_frozen BK273.out 3
            have hfz82_4 := blk_frozen BK273.out 4
            have hfz82_5 := blk_frozen BK273.out 5
            have hfz82_6 := blk_frozen BK273.out 6
            have hfz82_7 := blk_frozen BK273.out 7
            go_wp2_with (first | ((with_reducible refine gate_callee (f := 21) rfl ?_); refine goesL_ (some 42) rfl rfl Try.func21 (by kernel_rfl) rfl #[.agg #[.int .i64 t257, .int .i64 t258, .int .i64 t259, .int .i64 t260, .int .i64 t261, .int .i64 t262, .bool t263, .int .i64 t264]] rfl (by (try simp only [List.map_toArray, List.map_cons, List.map_nil]); first | done | rfl | (simp only [List.length_drop, List.length_take]; rfl)) ?_; (with_reducible refine (impl_SecondsOf.calls kj6 t257 t258 t259 t260 t261 t262 t263 t264 t279 _ A43.out).mono ?_); rintro e w83 ⟨rfl, hb⟩; refine ⟨_, rfl, ?_⟩; have n0_ := Aside0.mk (blk_below (g := gb273) (o := .cells #[.int .i64 t257, .int .i64 t258, .int .i64 t259, .int .i64 t260, .int .i64 t261, .int .i64 t262, .bool t263, .int .i64 t264] 29 (0, 0)) (by (with_reducible repeat (first | refine blk_drewN ?_ _ | refine blk_drew ?_ | refine blk_alloc ?_ _)); exact BK273.out) hb); have n1_ := Aside0.mk (blk_below (g := gb274) (o := .cells #[.int .i64 t265, .int .i64 t266, .int .i64 t267, .int .i64 t268, .int .i64 t269, .int .i64 t270, .bool t271, .int .i64 t272] 29 (0, 0)) (by (with_reducible repeat (first | refine blk_drewN ?_ _ | refine blk_drew ?_ | refine blk_alloc ?_ _)); exact BK274.out) hb); have n2_ := Aside0.mk (below_step (by repeat (first | (with_reducible first | exact HB.out | apply below_alloc | apply pw_below_drewN | apply below_drew1 | refine below_set ?_ GE273.out | refine below_set ?_ GE274.out) | exact HB.out)) hb); clear BK273; clear BK274; clear HB; have BK273 := n0_; have BK274 := n1_; have HB := n2_; clear n0_ n1_ n2_; (try clear hb); (try clear hb2); (try clear hk); (try clear hi); have hcz84_0 : w83.cell? ⟨gb274, 0, none⟩ = some (.int .i64 t265) := (blk_cell BK274.out 0).trans rfl; have hcz84_1 : w83.cell? ⟨gb274, 1, none⟩ = some (.int .i64 t266) := (blk_cell BK274.out 1).trans rfl; have hcz84_2 : w83.cell? ⟨gb274, 2, none⟩ = some (.int .i64 t267) := (blk_cell BK274.out 2).trans rfl; have hcz84_3 : w83.cell? ⟨gb274, 3, none⟩ = some (.int .i64 t268) := (blk_cell BK274.out 3).trans rfl; have hcz84_4 : w83.cell? ⟨gb274, 4, none⟩ = some (.int .i64 t269) := (blk_cell BK274.out 4).trans rfl; have hcz84_5 : w83.cell? ⟨gb274, 5, none⟩ = some (.int .i64 t270) := (blk_cell BK274.out 5).trans rfl; have hcz84_6 : w83.cell? ⟨gb274, 6, none⟩ = some (.bool t271) := (blk_cell BK274.out 6).trans rfl; have hcz84_7 : w83.cell? ⟨gb274, 7, none⟩ = some (.int .i64 t272) := (blk_cell BK274.out 7).trans rfl; have hfz84_0 := blk_frozen BK274.out 0; have hfz84_1 := blk_frozen BK274.out 1; have hfz84_2 := blk_frozen BK274.out 2; have hfz84_3 := blk_frozen BK274.out 3; have hfz84_4 := blk_frozen BK274.out 4; have hfz84_5 := blk_frozen BK274.out 5; have hfz84_6 := blk_frozen BK274.out 6; have hfz84_7 := blk_frozen BK274.out 7) | ((with_reducible refine gate_callee (f := 21) rfl ?_); refine goesL_ (some 44) rfl rfl Try.func21 (by kernel_rfl) rfl #[.agg #[.int .i64 t265, .int .i64 t266, .int .i64 t267, .int .i64 t268, .int .i64 t269, .int .i64 t270, .bool t271, .int .i64 t272]] rfl (by (try simp only [List.map_toArray, List.map_cons, List.map_nil]); first | done | rfl | (simp only [List.length_drop, List.length_take]; rfl)) ?_; (with_reducible refine (impl_SecondsOf.calls kj6 t265 t266 t267 t268 t269 t270 t271 t272 t280 _ A44.out).mono ?_); rintro e w85 ⟨rfl, hb⟩; refine ⟨_, rfl, ?_⟩; have n0_ := Aside0.mk (blk_below (g := gb273) (o := .cells #[.int .i64 t257, .int .i64 t258, .int .i64 t259, .int .i64 t260, .int .i64 t261, .int .i64 t262, .bool t263, .int .i64 t264] 29 (0, 0)) (by (with_reducible repeat (first | refine blk_drewN ?_ _ | refine blk_drew ?_ | refine blk_alloc ?_ _)); exact BK273.out) hb); have n1_ := Aside0.mk (blk_below (g := gb274) (o := .cells #[.int .i64 t265, .int .i64 t266, .int .i64 t267, .int .i64 t268, .int .i64 t269, .int .i64 t270, .bool t271, .int .i64 t272] 29 (0, 0)) (by (with_reducible repeat (first | refine blk_drewN ?_ _ | refine blk_drew ?_ | refine blk_alloc ?_ _)); exact BK274.out) hb); have n2_ := Aside0.mk (below_step (by repeat (first | (with_reducible first | exact HB.out | apply below_alloc | apply pw_below_drewN | apply below_drew1 | refine below_set ?_ GE273.out | refine below_set ?_ GE274.out) | exact HB.out)) hb); clear BK273; clear BK274; clear HB; have BK273 := n0_; have BK274 := n1_; have HB := n2_; clear n0_ n1_ n2_; (try clear hb); (try clear hb2); (try clear hk); (try clear hi); have hcz86_0 : w85.cell? ⟨gb273, 0, none⟩ = some (.int .i64 t257) := (blk_cell BK273.out 0).trans rfl; have hcz86_1 : w85.cell? ⟨gb273, 1, none⟩ = some (.int .i64 t258) := (blk_cell BK273.out 1).trans rfl; have hcz86_2 : w85.cell? ⟨gb273, 2, none⟩ = some (.int .i64 t259) := (blk_cell BK273.out 2).trans rfl; have hcz86_3 : w85.cell? ⟨gb273, 3, none⟩ = some (.int .i64 t260) := (blk_cell BK273.out 3).trans rfl; have hcz86_4 : w85.cell? ⟨gb273, 4, none⟩ = some (.int .i64 t261) := (blk_cell BK273.out 4).trans rfl; have hcz86_5 : w85.cell? ⟨gb273, 5, none⟩ = some (.int .i64 t262) := (blk_cell BK273.out 5).trans rfl; have hcz86_6 : w85.cell? ⟨gb273, 6, none⟩ = some (.bool t263) := (blk_cell BK273.out 6).trans rfl; have hcz86_7 : w85.cell? ⟨gb273, 7, none⟩ = some (.int .i64 t264) := (blk_cell BK273.out 7).trans rfl; have hfz86_0 := blk_frozen BK273.out 0; have hfz86_1 := blk_frozen BK273.out 1; have hfz86_2 := blk_frozen BK273.out 2; have hfz86_3 := blk_frozen BK273.out 3; have hfz86_4 := blk_frozen BK273.out 4; have hfz86_5 := blk_frozen BK273.out 5; have hfz86_6 := blk_frozen BK273.out 6; have hfz86_7 := blk_frozen BK273.out 7; have hcz87_0 : w85.cell? ⟨gb274, 0, none⟩ = some (.int .i64 t265) := (blk_cell BK274.out 0).trans rfl; have hcz87_1 : w85.cell? ⟨gb274, 1, none⟩ = some (.int .i64 t266) := (blk_cell BK274.out 1).trans rfl; have hcz87_2 : w85.cell? ⟨gb274, 2, none⟩ = some (.int .i64 t267) := (blk_cell BK274.out 2).trans rfl; have hcz87_3 : w85.cell? ⟨gb274, 3, none⟩ = some (.int .i64 t268) := (blk_cell BK274.out 3).trans rfl; have hcz87_4 : w85.cell? ⟨gb274, 4, none⟩ = some (.int .i64 t269) := (blk_cell BK274.out 4).trans rfl; have hcz87_5 : w85.cell? ⟨gb274, 5, none⟩ = some (.int .i64 t270) := (blk_cell BK274.out 5).trans rfl; have hcz87_6 : w85.cell? ⟨gb274, 6, none⟩ = some (.bool t271) := (blk_cell BK274.out 6).trans rfl; have hcz87_7 : w85.cell? ⟨gb274, 7, none⟩ = some (.int .i64 t272) := (blk_cell BK274.out 7).trans rfl; have hfz87_0 := blk_frozen BK274.out 0; have hfz87_1 := blk_frozen BK274.out 1; have hfz87_2 := blk_frozen BK274.out 2; have hfz87_3 := blk_frozen BK274.out 3; have hfz87_4 := blk_frozen BK274.out 4; have hfz87_5 := blk_frozen BK274.out 5; have hfz87_6 := blk_frozen BK274.out 6; have hfz87_7 := blk_frozen BK274.out 7))
            go_ret
            exact ⟨by first | rfl | (simp [*] <;> rfl), by repeat (first | (with_reducible first | exact HB.out | apply below_alloc | apply pw_below_drewN | apply below_drew1 | refine below_set ?_ GE273.out | refine below_set ?_ GE274.out) | exact HB.out)⟩
           ·rw [if_neg c80] at H
            have c80b0 : (t263 != t271) = false := by simpa using c80
            (try (have c80b1 : decide (t263 = t271) = true := by simpa using c80))
            (try (have c80b2 : (t263 == t271) = true := by simpa using c80))
            clear c80
            by_cases c88 : ((decide (t279 < t280)) == (t275 == (-1))) = true
            ·rw [if_pos c88] at H
             have c88b0 : ((decide (t279 < t280)) == (t275 == (-1))) = true := c88
             (try (have c88b1 : decide ((decide (t279 < t280)) = (t275 == (-1))) = true := by simpa using c88))
             (try (have c88b2 : ((decide (t279 < t280)) == (t275 == (-1))) = true := by simpa using c88))
             clear c88
             obtain ⟨z1, z2⟩ : decide (t279 < t280) = true ∧ decide (t280 < t279) = true := by
              rcases Int.lt_trichotomy t279 t280 with zl | zl | zl
              ·have z1 : decide (t279 < t280) = true := decide_eq_true zl
               have z2 : decide (t280 < t279) = false := decide_eq_false (by omega)
               exfalso; have k0 := (Option.some.inj H).trans HRT.out; have k1 := c88b0; have k2 := c50b0; have k3 := c49b0; have k4 := c48b0; have k5 := c47b0; have k6 := c46b0; first | (simp [z1, z2] at k0 k1 k2 k3 k4 k5 k6; done) | (simp [z1, z2] at k0 k1 k2 k3 k4 k5 k6; omega)
              ·have z1 : decide (t279 < t280) = false := decide_eq_false (by omega)
               have z2 : decide (t280 < t279) = false := decide_eq_false (by omega)
               exfalso; have k0 := (Option.some.inj H).trans HRT.out; have k1 := c88b0; have k2 := c50b0; have k3 := c49b0; have k4 := c48b0; have k5 := c47b0; have k6 := c46b0; first | (simp [z1, z2] at k0 k1 k2 k3 k4 k5 k6; done) | (simp [z1, z2] at k0 k1 k2 k3 k4 k5 k6; omega)
              ·have z1 : decide (t279 < t280) = false := decide_eq_false (by omega)
               have z2 : decide (t280 < t279) = true := decide_eq_true zl
               exfalso; have k0 := (Option.some.inj H).trans HRT.out; have k1 := c88b0; have k2 := c50b0; have k3 := c49b0; have k4 := c48b0; have k5 := c47b0; have k6 := c46b0; first | (simp [z1, z2] at k0 k1 k2 k3 k4 k5 k6; done) | (simp [z1, z2] at k0 k1 k2 k3 k4 k5 k6; omega)
             obtain rfl := Option.some.inj H
             have hnb89 := NB273_274.out
             have hnc89 := NB274_273.out
             have hcz90_0 : wc.cell? ⟨gb273, 0, none⟩ = some (.int .i64 t257) := (blk_cell BK273.out 0).trans rfl
             have hcz90_1 : wc.cell? ⟨gb273, 1, none⟩ = some (.int .i64 t258) := (blk_cell BK273.out 1).trans rfl
             have hcz90_2 : wc.cell? ⟨gb273, 2, none⟩ = some (.int .i64 t259) := (blk_cell BK273.out 2).trans rfl
             have hcz90_3 : wc.cell? ⟨gb273, 3, none⟩ = some (.int .i64 t260) := (blk_cell BK273.out 3).trans rfl
             have hcz90_4 : wc.cell? ⟨gb273, 4, none⟩ = some (.int .i64 t261) := (blk_cell BK273.out 4).trans rfl
             have hcz90_5 : wc.cell? ⟨gb273, 5, none⟩ = some (.int .i64 t262) := (blk_cell BK273.out 5).trans rfl
             have hcz90_6 : wc.cell? ⟨gb273, 6, none⟩ = some (.bool t263) := (blk_cell BK273.out 6).trans rfl
             have hcz90_7 : wc.cell? ⟨gb273, 7, none⟩ = some (.int .i64 t264) := (blk_cell BK273.out 7).trans rfl
             have hfz90_0 := blk_frozen BK273.out 0
             have hfz90_1 := blk_frozen BK273.out 1
             have hfz90_2 := blk_frozen BK273.out 2
             have hfz90_3 := blk_frozen BK273.out 3
             have hfz90_4 := blk_frozen BK273.out 4
             have hfz90_5 := blk_frozen BK273.out 5
             have hfz90_6 := blk_frozen BK273.out 6
             have hfz90_7 := blk_frozen BK273.out 7
             go_wp2_with (first | ((with_reducible refine gate_callee (f := 21) rfl ?_); refine goesL_ (some 42) rfl rfl Try.func21 (by kernel_rfl) rfl #[.agg #[.int .i64 t257, .int .i64 t258, .int .i64 t259, .int .i64 t260, .int .i64 t261, .int .i64 t262, .bool t263, .int .i64 t264]] rfl (by (try simp only [List.map_toArray, List.map_cons, List.map_nil]); first | done | rfl | (simp only [List.length_drop, List.length_take]; rfl)) ?_; (with_reducible refine (impl_SecondsOf.calls kj6 t257 t258 t259 t260 t261 t262 t263 t264 t279 _ A43.out).mono ?_); rintro e w91 ⟨rfl, hb⟩; refine ⟨_, rfl, ?_⟩; have n0_ := Aside0.mk (blk_below (g := gb273) (o := .cells #[.int .i64 t257, .int .i64 t258, .int .i64 t259, .int .i64 t260, .int .i64 t261, .int .i64 t262, .bool t263, .int .i64 t264] 29 (0, 0)) (by (with_reducible repeat (first | refine blk_drewN ?_ _ | refine blk_drew ?_ | refine blk_alloc ?_ _)); exact BK273.out) hb); have n1_ := Aside0.mk (blk_below (g := gb274) (o := .cells #[.int .i64 t265, .int .i64 t266, .int .i64 t267, .int .i64 t268, .int .i64 t269, .int .i64 t270, .bool t271, .int .i64 t272] 29 (0, 0)) (by (with_reducible repeat (first | refine blk_drewN ?_ _ | refine blk_drew ?_ | refine blk_alloc ?_ _)); exact BK274.out) hb); have n2_ := Aside0.mk (below_step (by repeat (first | (with_reducible first | exact HB.out | apply below_alloc | apply pw_below_drewN | apply below_drew1 | refine below_set ?_ GE273.out | refine below_set ?_ GE274.out) | exact HB.out)) hb); clear BK273; clear BK274; clear HB; have BK273 := n0_; have BK274 := n1_; have HB := n2_; clear n0_ n1_ n2_; (try clear hb); (try clear hb2); (try clear hk); (try clear hi); have hcz92_0 : w91.cell? ⟨gb274, 0, none⟩ = some (.int .i64 t265) := (blk_cell BK274.out 0).trans rfl; have hcz92_1 : w91.cell? ⟨gb274, 1, none⟩ = some (.int .i64 t266) := (blk_cell BK274.out 1).trans rfl; have hcz92_2 : w91.cell? ⟨gb274, 2, none⟩ = some (.int .i64 t267) := (blk_cell BK274.out 2).trans rfl; have hcz92_3 : w91.cell? ⟨gb274, 3, none⟩ = some (.int .i64 t268) := (blk_cell BK274.out 3).trans rfl; have hcz92_4 : w91.cell? ⟨gb274, 4, none⟩ = some (.int .i64 t269) := (blk_cell BK274.out 4).trans rfl; have hcz92_5 : w91.cell? ⟨gb274, 5, none⟩ = some (.int .i64 t270) := (blk_cell BK274.out 5).trans rfl; have hcz92_6 : w91.cell? ⟨gb274, 6, none⟩ = some (.bool t271) := (blk_cell BK274.out 6).trans rfl; have hcz92_7 : w91.cell? ⟨gb274, 7, none⟩ = some (.int .i64 t272) := (blk_cell BK274.out 7).trans rfl; have hfz92_0 := blk_frozen BK274.out 0; have hfz92_1 := blk_frozen BK274.out 1; have hfz92_2 := blk_frozen BK274.out 2; have hfz92_3 := blk_frozen BK274.out 3; have hfz92_4 := blk_frozen BK274.out 4; have hfz92_5 := blk_frozen BK274.out 5; have hfz92_6 := blk_frozen BK274.out 6; have hfz92_7 := blk_frozen BK274.out 7) | ((with_reducible refine gate_callee (f := 21) rfl ?_); refine goesL_ (some 44) rfl rfl Try.func21 (by kernel_rfl) rfl #[.agg #[.int .i64 t265, .int .i64 t266, .int .i64 t267, .int .i64 t268, .int .i64 t269, .int .i64 t270, .bool t271, .int .i64 t272]] rfl (by (try simp only [List.map_toArray, List.map_cons, List.map_nil]); first | done | rfl | (simp only [List.length_drop, List.length_take]; rfl)) ?_; (with_reducible refine (impl_SecondsOf.calls kj6 t265 t266 t267 t268 t269 t270 t271 t272 t280 _ A44.out).mono ?_); rintro e w93 ⟨rfl, hb⟩; refine ⟨_, rfl, ?_⟩; have n0_ := Aside0.mk (blk_below (g := gb273) (o := .cells #[.int .i64 t257, .int .i64 t258, .int .i64 t259, .int .i64 t260, .int .i64 t261, .int .i64 t262, .bool t263, .int .i64 t264] 29 (0, 0)) (by (with_reducible repeat (first | refine blk_drewN ?_ _ | refine blk_drew ?_ | refine blk_alloc ?_ _)); exact BK273.out) hb); have n1_ := Aside0.mk (blk_below (g := gb274) (o := .cells #[.int .i64 t265, .int .i64 t266, .int .i64 t267, .int .i64 t268, .int .i64 t269, .int .i64 t270, .bool t271, .int .i64 t272] 29 (0, 0)) (by (with_reducible repeat (first | refine blk_drewN ?_ _ | refine blk_drew ?_ | refine blk_alloc ?_ _)); exact BK274.out) hb); have n2_ := Aside0.mk (below_step (by repeat (first | (with_reducible first | exact HB.out | apply below_alloc | apply pw_below_drewN | apply below_drew1 | refine below_set ?_ GE273.out | refine below_set ?_ GE274.out) | exact HB.out)) hb); clear BK273; clear BK274; clear HB; have BK273 := n0_; have BK274 := n1_; have HB := n2_; clear n0_ n1_ n2_; (try clear hb); (try clear hb2); (try clear hk); (try clear hi); have hcz94_0 : w93.cell? ⟨gb273, 0, none⟩ = some (.int .i64 t257) := (blk_cell BK273.out 0).trans rfl; have hcz94_1 : w93.cell? ⟨gb273, 1, none⟩ = some (.int .i64 t258) := (blk_cell BK273.out 1).trans rfl; have hcz94_2 : w93.cell? ⟨gb273, 2, none⟩ = some (.int .i64 t259) := (blk_cell BK273.out 2).trans rfl; have hcz94_3 : w93.cell? ⟨gb273, 3, none⟩ = some (.int .i64 t260) := (blk_cell BK273.out 3).trans rfl; have hcz94_4 : w93.cell? ⟨gb273, 4, none⟩ = some (.int .i64 t261) := (blk_cell BK273.out 4).trans rfl; have hcz94_5 : w93.cell? ⟨gb273, 5, none⟩ = some (.int .i64 t262) := (blk_cell BK273.out 5).trans rfl; have hcz94_6 : w93.cell? ⟨gb273, 6, none⟩ = some (.bool t263) := (blk_cell BK273.out 6).trans rfl; have hcz94_7 : w93.cell? ⟨gb273, 7, none⟩ = some (.int .i64 t264) := (blk_cell BK273.out 7).trans rfl; have hfz94_0 := blk_frozen BK273.out 0; have hfz94_1 := blk_frozen BK273.out 1; have hfz94_2 := blk_frozen BK273.out 2; have hfz94_3 := blk_frozen BK273.out 3; have hfz94_4 := blk_frozen BK273.out 4; have hfz94_5 := blk_frozen BK273.out 5; have hfz94_6 := blk_frozen BK273.out 6; have hfz94_7 := blk_frozen BK273.out 7; have hcz95_0 : w93.cell? ⟨gb274, 0, none⟩ = some (.int .i64 t265) := (blk_cell BK274.out 0).trans rfl; have hcz95_1 : w93.cell? ⟨gb274, 1, none⟩ = some (.int .i64 t266) := (blk_cell BK274.out 1).trans rfl; have hcz95_2 : w93.cell? ⟨gb274, 2, none⟩ = some (.int .i64 t267) := (blk_cell BK274.out 2).trans rfl; have hcz95_3 : w93.cell? ⟨gb274, 3, none⟩ = some (.int .i64 t268) := (blk_cell BK274.out 3).trans rfl; have hcz95_4 : w93.cell? ⟨gb274, 4, none⟩ = some (.int .i64 t269) := (blk_cell BK274.out 4).trans rfl; have hcz95_5 : w93.cell? ⟨gb274, 5, none⟩ = some (.int .i64 t270) := (blk_cell BK274.out 5).trans rfl; have hcz95_6 : w93.cell? ⟨gb274, 6, none⟩ = some (.bool t271) := (blk_cell BK274.out 6).trans rfl; have hcz95_7 : w93.cell? ⟨gb274, 7, none⟩ = some (.int .i64 t272) := (blk_cell BK274.out 7).trans rfl; have hfz95_0 := blk_frozen BK274.out 0; have hfz95_1 := blk_frozen BK274.out 1; have hfz95_2 := blk_frozen BK274.out 2; have hfz95_3 := blk_frozen BK274.out 3; have hfz95_4 := blk_frozen BK274.out 4; have hfz95_5 := blk_frozen BK274.out 5; have hfz95_6 := blk_frozen BK274.out 6; have hfz95_7 := blk_frozen BK274.out 7))
             go_ret
             exact ⟨by first | rfl | (simp [*] <;> rfl), by repeat (first | (with_reducible first | exact HB.out | apply below_alloc | apply pw_below_drewN | apply below_drew1 | refine below_set ?_ GE273.out | refine below_set ?_ GE274.out) | exact HB.out)⟩
            ·rw [if_neg c88] at H
             have c88b0 : ((decide (t279 < t280)) == (t275 == (-1))) = false := by simpa using c88
             (try (have c88b1 : decide ((decide (t279 < t280)) = (t275 == (-1))) = false := by simpa using c88))
             (try (have c88b2 : ((decide (t279 < t280)) == (t275 == (-1))) = false := by simpa using c88))
             (try (have c88b3 : ¬ ((decide (t279 < t280)) = (t275 == (-1))) := by simpa using c88))
             clear c88
             exact absurd ((Option.some.inj H).trans HRT.out) (by decide)
         ·rw [if_neg c49] at H
          have c49b0 : decide (t280 < t279) = false := decide_eq_false c49
          clear c49
          exact absurd ((Option.some.inj H).trans HRT.out) (by decide)
        ·rw [if_neg c48] at H
         have c48b0 : (t275 == 1) = false := beq_eq_false_iff_ne.mpr c48
         have c48b1 : (t275 != 1) = true := bne_iff_ne.mpr c48
         by_cases c108 : t275 = 0
         ·rw [if_pos c108] at H
          have c108b0 : (t275 == 0) = true := beq_iff_eq.mpr c108
          have c108b1 : (t275 != 0) = false := bne_eq_false_iff_eq.mpr c108
          clear c108
          by_cases c109 : t279 = t280
          ·rw [if_pos c109] at H
           have c109b0 : (t279 == t280) = true := beq_iff_eq.mpr c109
           have c109b1 : (t279 != t280) = false := bne_eq_false_iff_eq.mpr c109
           clear c109
           by_cases c110 : (t263 != t271) = true
           ·rw [if_pos c110] at H
            have c110b0 : (t263 != t271) = true := c110
            (try (have c110b1 : decide (t263 = t271) = false := by simpa using c110))
            (try (have c110b2 : (t263 == t271) = false := by simpa using c110))
            (try (have c110b3 : ¬ (t263 = t271) := by simpa using c110))
            clear c110
            obtain rfl := Option.some.inj H
            have hnb111 := NB273_274.out
            have hnc111 := NB274_273.out
            have hcz112_0 : wc.cell? ⟨gb273, 0, none⟩ = some (.int .i64 t257) := (blk_cell BK273.out 0).trans rfl
            have hcz112_1 : wc.cell? ⟨gb273, 1, none⟩ = some (.int .i64 t258) := (blk_cell BK273.out 1).trans rfl
            have hcz112_2 : wc.cell? ⟨gb273, 2, none⟩ = some (.int .i64 t259) := (blk_cell BK273.out 2).trans rfl
            have hcz112_3 : wc.cell? ⟨gb273, 3, none⟩ = some (.int .i64 t260) := (blk_cell BK273.out 3).trans rfl
            have hcz112_4 : wc.cell? ⟨gb273, 4, none⟩ = some (.int .i64 t261) := (blk_cell BK273.out 4).trans rfl
            have hcz112_5 : wc.cell? ⟨gb273, 5, none⟩ = some (.int .i64 t262) := (blk_cell BK273.out 5).trans rfl
            have hcz112_6 : wc.cell? ⟨gb273, 6, none⟩ = some (.bool t263) := (blk_cell BK273.out 6).trans rfl
            have hcz112_7 : wc.cell? ⟨gb273, 7, none⟩ = some (.int .i64 t264) := (blk_cell BK273.out 7).trans rfl
            have hfz112_0 := blk_frozen BK273.out 0
            have hfz112_1 := blk_frozen BK273.out 1
            have hfz112_2 := blk_frozen BK273.out 2
            have hfz112_3 := blk_frozen BK273.out 3
            have hfz112_4 := blk_frozen BK273.out 4
            have hfz112_5 := blk_frozen BK273.out 5
            have hfz112_6 := blk_frozen BK273.out 6
            have hfz112_7 := blk_frozen BK273.out 7
            go_wp2_with (first | ((with_reducible refine gate_callee (f := 21) rfl ?_); refine goesL_ (some 42) rfl rfl Try.func21 (by kernel_rfl) rfl #[.agg #[.int .i64 t257, .int .i64 t258, .int .i64 t259, .int .i64 t260, .int .i64 t261, .int .i64 t262, .bool t263, .int .i64 t264]] rfl (by (try simp only [List.map_toArray, List.map_cons, List.map_nil]); first | done | rfl | (simp only [List.length_drop, List.length_take]; rfl)) ?_; (with_reducible refine (impl_SecondsOf.calls kj6 t257 t258 t259 t260 t261 t262 t263 t264 t279 _ A43.out).mono ?_); rintro e w113 ⟨rfl, hb⟩; refine ⟨_, rfl, ?_⟩; have n0_ := Aside0.mk (blk_below (g := gb273) (o := .cells #[.int .i64 t257, .int .i64 t258, .int .i64 t259, .int .i64 t260, .int .i64 t261, .int .i64 t262, .bool t263, .int .i64 t264] 29 (0, 0)) (by (with_reducible repeat (first | refine blk_drewN ?_ _ | refine blk_drew ?_ | refine blk_alloc ?_ _)); exact BK273.out) hb); have n1_ := Aside0.mk (blk_below (g := gb274) (o := .cells #[.int .i64 t265, .int .i64 t266, .int .i64 t267, .int .i64 t268, .int .i64 t269, .int .i64 t270, .bool t271, .int .i64 t272] 29 (0, 0)) (by (with_reducible repeat (first | refine blk_drewN ?_ _ | refine blk_drew ?_ | refine blk_alloc ?_ _)); exact BK274.out) hb); have n2_ := Aside0.mk (below_step (by repeat (first | (with_reducible first | exact HB.out | apply below_alloc | apply pw_below_drewN | apply below_drew1 | refine below_set ?_ GE273.out | refine below_set ?_ GE274.out) | exact HB.out)) hb); clear BK273; clear BK274; clear HB; have BK273 := n0_; have BK274 := n1_; have HB := n2_; clear n0_ n1_ n2_; (try clear hb); (try clear hb2); (try clear hk); (try clear hi); have hcz114_0 : w113.cell? ⟨gb274, 0, none⟩ = some (.int .i64 t265) := (blk_cell BK274.out 0).trans rfl; have hcz114_1 : w113.cell? ⟨gb274, 1, none⟩ = some (.int .i64 t266) := (blk_cell BK274.out 1).trans rfl; have hcz114_2 : w113.cell? ⟨gb274, 2, none⟩ = some (.int .i64 t267) := (blk_cell BK274.out 2).trans rfl; have hcz114_3 : w113.cell? ⟨gb274, 3, none⟩ = some (.int .i64 t268) := (blk_cell BK274.out 3).trans rfl; have hcz114_4 : w113.cell? ⟨gb274, 4, none⟩ = some (.int .i64 t269) := (blk_cell BK274.out 4).trans rfl; have hcz114_5 : w113.cell? ⟨gb274, 5, none⟩ = some (.int .i64 t270) := (blk_cell BK274.out 5).trans rfl; have hcz114_6 : w113.cell? ⟨gb274, 6, none⟩ = some (.bool t271) := (blk_cell BK274.out 6).trans rfl; have hcz114_7 : w113.cell? ⟨gb274, 7, none⟩ = some (.int .i64 t272) := (blk_cell BK274.out 7).trans rfl; have hfz114_0 := blk_frozen BK274.out 0; have hfz114_1 := blk_frozen BK274.out 1; have hfz114_2 := blk_frozen BK274.out 2; have hfz114_3 := blk_frozen BK274.out 3; have hfz114_4 := blk_frozen BK274.out 4; have hfz114_5 := blk_frozen BK274.out 5; have hfz114_6 := blk_frozen BK274.out 6; have hfz114_7 := blk_frozen BK274.out 7) | ((with_reducible refine gate_callee (f := 21) rfl ?_); refine goesL_ (some 44) rfl rfl Try.func21 (by kernel_rfl) rfl #[.agg #[.int .i64 t265, .int .i64 t266, .int .i64 t267, .int .i64 t268, .int .i64 t269, .int .i64 t270, .bool t271, .int .i64 t272]] rfl (by (try simp only [List.map_toArray, List.map_cons, List.map_nil]); first | done | rfl | (simp only [List.length_drop, List.length_take]; rfl)) ?_; (with_reducible refine (impl_SecondsOf.calls kj6 t265 t266 t267 t268 t269 t270 t271 t272 t280 _ A44.out).mono ?_); rintro e w115 ⟨rfl, hb⟩; refine ⟨_, rfl, ?_⟩; have n0_ := Aside0.mk (blk_below (g := gb273) (o := .cells #[.int .i64 t257, .int .i64 t258, .int .i64 t259, .int .i64 t260, .int .i64 t261, .int .i64 t262, .bool t263, .int .i64 t264] 29 (0, 0)) (by (with_reducible repeat (first | refine blk_drewN ?_ _ | refine blk_drew ?_ | refine blk_alloc ?_ _)); exact BK273.out) hb); have n1_ := Aside0.mk (blk_below (g := gb274) (o := .cells #[.int .i64 t265, .int .i64 t266, .int .i64 t267, .int .i64 t268, .int .i64 t269, .int .i64 t270, .bool t271, .int .i64 t272] 29 (0, 0)) (by (with_reducible repeat (first | refine blk_drewN ?_ _ | refine blk_drew ?_ | refine blk_alloc ?_ _)); exact BK274.out) hb); have n2_ := Aside0.mk (below_step (by repeat (first | (with_reducible first | exact HB.out | apply below_alloc | apply pw_below_drewN | apply below_drew1 | refine below_set ?_ GE273.out | refine below_set ?_ GE274.out) | exact HB.out)) hb); clear BK273; clear BK274; clear HB; have BK273 := n0_; have BK274 := n1_; have HB := n2_; clear n0_ n1_ n2_; (try clear hb); (try clear hb2); (try clear hk); (try clear hi); have hcz116_0 : w115.cell? ⟨gb273, 0, none⟩ = some (.int .i64 t257) := (blk_cell BK273.out 0).trans rfl; have hcz116_1 : w115.cell? ⟨gb273, 1, none⟩ = some (.int .i64 t258) := (blk_cell BK273.out 1).trans rfl; have hcz116_2 : w115.cell? ⟨gb273, 2, none⟩ = some (.int .i64 t259) := (blk_cell BK273.out 2).trans rfl; have hcz116_3 : w115.cell? ⟨gb273, 3, none⟩ = some (.int .i64 t260) := (blk_cell BK273.out 3).trans rfl; have hcz116_4 : w115.cell? ⟨gb273, 4, none⟩ = some (.int .i64 t261) := (blk_cell BK273.out 4).trans rfl; have hcz116_5 : w115.cell? ⟨gb273, 5, none⟩ = some (.int .i64 t262) := (blk_cell BK273.out 5).trans rfl; have hcz116_6 : w115.cell? ⟨gb273, 6, none⟩ = some (.bool t263) := (blk_cell BK273.out 6).trans rfl; have hcz116_7 : w115.cell? ⟨gb273, 7, none⟩ = some (.int .i64 t264) := (blk_cell BK273.out 7).trans rfl; have hfz116_0 := blk_frozen BK273.out 0; have hfz116_1 := blk_frozen BK273.out 1; have hfz116_2 := blk_frozen BK273.out 2; have hfz116_3 := blk_frozen BK273.out 3; have hfz116_4 := blk_frozen BK273.out 4; have hfz116_5 := blk_frozen BK273.out 5; have hfz116_6 := blk_frozen BK273.out 6; have hfz116_7 := blk_frozen BK273.out 7; have hcz117_0 : w115.cell? ⟨gb274, 0, none⟩ = some (.int .i64 t265) := (blk_cell BK274.out 0).trans rfl; have hcz117_1 : w115.cell? ⟨gb274, 1, none⟩ = some (.int .i64 t266) := (blk_cell BK274.out 1).trans rfl; have hcz117_2 : w115.cell? ⟨gb274, 2, none⟩ = some (.int .i64 t267) := (blk_cell BK274.out 2).trans rfl; have hcz117_3 : w115.cell? ⟨gb274, 3, none⟩ = some (.int .i64 t268) := (blk_cell BK274.out 3).trans rfl; have hcz117_4 : w115.cell? ⟨gb274, 4, none⟩ = some (.int .i64 t269) := (blk_cell BK274.out 4).trans rfl; have hcz117_5 : w115.cell? ⟨gb274, 5, none⟩ = some (.int .i64 t270) := (blk_cell BK274.out 5).trans rfl; have hcz117_6 : w115.cell? ⟨gb274, 6, none⟩ = some (.bool t271) := (blk_cell BK274.out 6).trans rfl; have hcz117_7 : w115.cell? ⟨gb274, 7, none⟩ = some (.int .i64 t272) := (blk_cell BK274.out 7).trans rfl; have hfz117_0 := blk_frozen BK274.out 0; have hfz117_1 := blk_frozen BK274.out 1; have hfz117_2 := blk_frozen BK274.out 2; have hfz117_3 := blk_frozen BK274.out 3; have hfz117_4 := blk_frozen BK274.out 4; have hfz117_5 := blk_frozen BK274.out 5; have hfz117_6 := blk_frozen BK274.out 6; have hfz117_7 := blk_frozen BK274.out 7))
            go_ret
            exact ⟨by first | rfl | (simp [*] <;> rfl), by repeat (first | (with_reducible first | exact HB.out | apply below_alloc | apply pw_below_drewN | apply below_drew1 | refine below_set ?_ GE273.out | refine below_set ?_ GE274.out) | exact HB.out)⟩
           ·rw [if_neg c110] at H
            have c110b0 : (t263 != t271) = false := by simpa using c110
            (try (have c110b1 : decide (t263 = t271) = true := by simpa using c110))
            (try (have c110b2 : (t263 == t271) = true := by simpa using c110))
            clear c110
            by_cases c118 : ((decide (t279 < t280)) == (t275 == (-1))) = true
            ·rw [if_pos c118] at H
             have c118b0 : ((decide (t279 < t280)) == (t275 == (-1))) = true := c118
             (try (have c118b1 : decide ((decide (t279 < t280)) = (t275 == (-1))) = true := by simpa using c118))
             (try (have c118b2 : ((decide (t279 < t280)) == (t275 == (-1))) = true := by simpa using c118))
             clear c118
             obtain ⟨z1, z2⟩ : decide (t279 < t280) = true ∧ decide (t280 < t279) = false := by
              rcases Int.lt_trichotomy t279 t280 with zl | zl | zl
              ·exact ⟨decide_eq_true zl, decide_eq_false (by omega)⟩
              ·have z1 : decide (t279 < t280) = false := decide_eq_false (by omega)
               have z2 : decide (t280 < t279) = false := decide_eq_false (by omega)
               exfalso; have k0 := (Option.some.inj H).trans HRT.out; have k1 := c118b0; have k2 := c109b0; have k3 := c108b0; have k4 := c48b0; have k5 := c47b0; have k6 := c46b0; first | (simp [z1, z2] at k0 k1 k2 k3 k4 k5 k6; done) | (simp [z1, z2] at k0 k1 k2 k3 k4 k5 k6; omega)
              ·have z1 : decide (t279 < t280) = false := decide_eq_false (by omega)
               have z2 : decide (t280 < t279) = true := decide_eq_true zl
               exfalso; have k0 := (Option.some.inj H).trans HRT.out; have k1 := c118b0; have k2 := c109b0; have k3 := c108b0; have k4 := c48b0; have k5 := c47b0; have k6 := c46b0; first | (simp [z1, z2] at k0 k1 k2 k3 k4 k5 k6; done) | (simp [z1, z2] at k0 k1 k2 k3 k4 k5 k6; omega)
             obtain rfl := Option.some.inj H
             have hnb119 := NB273_274.out
             have hnc119 := NB274_273.out
             have hcz120_0 : wc.cell? ⟨gb273, 0, none⟩ = some (.int .i64 t257) := (blk_cell BK273.out 0).trans rfl
             have hcz120_1 : wc.cell? ⟨gb273, 1, none⟩ = some (.int .i64 t258) := (blk_cell BK273.out 1).trans rfl
             have hcz120_2 : wc.cell? ⟨gb273, 2, none⟩ = some (.int .i64 t259) := (blk_cell BK273.out 2).trans rfl
             have hcz120_3 : wc.cell? ⟨gb273, 3, none⟩ = some (.int .i64 t260) := (blk_cell BK273.out 3).trans rfl
             have hcz120_4 : wc.cell? ⟨gb273, 4, none⟩ = some (.int .i64 t261) := (blk_cell BK273.out 4).trans rfl
             have hcz120_5 : wc.cell? ⟨gb273, 5, none⟩ = some (.int .i64 t262) := (blk_cell BK273.out 5).trans rfl
             have hcz120_6 : wc.cell? ⟨gb273, 6, none⟩ = some (.bool t263) := (blk_cell BK273.out 6).trans rfl
             have hcz120_7 : wc.cell? ⟨gb273, 7, none⟩ = some (.int .i64 t264) := (blk_cell BK273.out 7).trans rfl
             have hfz120_0 := blk_frozen BK273.out 0
             have hfz120_1 := blk_frozen BK273.out 1
             have hfz120_2 := blk_frozen BK273.out 2
             have hfz120_3 := blk_frozen BK273.out 3
             have hfz120_4 := blk_frozen BK273.out 4
             have hfz120_5 := blk_frozen BK273.out 5
             have hfz120_6 := blk_frozen BK273.out 6
             have hfz120_7 := blk_frozen BK273.out 7
             go_wp2_with (first | ((with_reducible refine gate_callee (f := 21) rfl ?_); refine goesL_ (some 42) rfl rfl Try.func21 (by kernel_rfl) rfl #[.agg #[.int .i64 t257, .int .i64 t258, .int .i64 t259, .int .i64 t260, .int .i64 t261, .int .i64 t262, .bool t263, .int .i64 t264]] rfl (by (try simp only [List.map_toArray, List.map_cons, List.map_nil]); first | done | rfl | (simp only [List.length_drop, List.length_take]; rfl)) ?_; (with_reducible refine (impl_SecondsOf.calls kj6 t257 t258 t259 t260 t261 t262 t263 t264 t279 _ A43.out).mono ?_); rintro e w121 ⟨rfl, hb⟩; refine ⟨_, rfl, ?_⟩; have n0_ := Aside0.mk (blk_below (g := gb273) (o := .cells #[.int .i64 t257, .int .i64 t258, .int .i64 t259, .int .i64 t260, .int .i64 t261, .int .i64 t262, .bool t263, .int .i64 t264] 29 (0, 0)) (by (with_reducible repeat (first | refine blk_drewN ?_ _ | refine blk_drew ?_ | refine blk_alloc ?_ _)); exact BK273.out) hb); have n1_ := Aside0.mk (blk_below (g := gb274) (o := .cells #[.int .i64 t265, .int .i64 t266, .int .i64 t267, .int .i64 t268, .int .i64 t269, .int .i64 t270, .bool t271, .int .i64 t272] 29 (0, 0)) (by (with_reducible repeat (first | refine blk_drewN ?_ _ | refine blk_drew ?_ | refine blk_alloc ?_ _)); exact BK274.out) hb); have n2_ := Aside0.mk (below_step (by repeat (first | (with_reducible first | exact HB.out | apply below_alloc | apply pw_below_drewN | apply below_drew1 | refine below_set ?_ GE273.out | refine below_set ?_ GE274.out) | exact HB.out)) hb); clear BK273; clear BK274; clear HB; have BK273 := n0_; have BK274 := n1_; have HB := n2_; clear n0_ n1_ n2_; (try clear hb); (try clear hb2); (try clear hk); (try clear hi); have hcz122_0 : w121.cell? ⟨gb274, 0, none⟩ = some (.int .i64 t265) := (blk_cell BK274.out 0).trans rfl; have hcz122_1 : w121.cell? ⟨gb274, 1, none⟩ = some (.int .i64 t266) := (blk_cell BK274.out 1).trans rfl; have hcz122_2 : w121.cell? ⟨gb274, 2, none⟩ = some (.int .i64 t267) := (blk_cell BK274.out 2).trans rfl; have hcz122_3 : w121.cell? ⟨gb274, 3, none⟩ = some (.int .i64 t268) := (blk_cell BK274.out 3).trans rfl; have hcz122_4 : w121.cell? ⟨gb274, 4, none⟩ = some (.int .i64 t269) := (blk_cell BK274.out 4).trans rfl; have hcz122_5 : w121.cell? ⟨gb274, 5, none⟩ = some (.int .i64 t270) := (blk_cell BK274.out 5).trans rfl; have hcz122_6 : w121.cell? ⟨gb274, 6, none⟩ = some (.bool t271) := (blk_cell BK274.out 6).trans rfl; have hcz122_7 : w121.cell? ⟨gb274, 7, none⟩ = some (.int .i64 t272) := (blk_cell BK274.out 7).trans rfl; have hfz122_0 := blk_frozen BK274.out 0; have hfz122_1 := blk_frozen BK274.out 1; have hfz122_2 := blk_frozen BK274.out 2; have hfz122_3 := blk_frozen BK274.out 3; have hfz122_4 := blk_frozen BK274.out 4; have hfz122_5 := blk_frozen BK274.out 5; have hfz122_6 := blk_frozen BK274.out 6; have hfz122_7 := blk_frozen BK274.out 7) | ((with_reducible refine gate_callee (f := 21) rfl ?_); refine goesL_ (some 44) rfl rfl Try.func21 (by kernel_rfl) rfl #[.agg #[.int .i64 t265, .int .i64 t266, .int .i64 t267, .int .i64 t268, .int .i64 t269, .int .i64 t270, .bool t271, .int .i64 t272]] rfl (by (try simp only [List.map_toArray, List.map_cons, List.map_nil]); first | done | rfl | (simp only [List.length_drop, List.length_take]; rfl)) ?_; (with_reducible refine (impl_SecondsOf.calls kj6 t265 t266 t267 t268 t269 t270 t271 t272 t280 _ A44.out).mono ?_); rintro e w123 ⟨rfl, hb⟩; refine ⟨_, rfl, ?_⟩; have n0_ := Aside0.mk (blk_below (g := gb273) (o := .cells #[.int .i64 t257, .int .i64 t258, .int .i64 t259, .int .i64 t260, .int .i64 t261, .int .i64 t262, .bool t263, .int .i64 t264] 29 (0, 0)) (by (with_reducible repeat (first | refine blk_drewN ?_ _ | refine blk_drew ?_ | refine blk_alloc ?_ _)); exact BK273.out) hb); have n1_ := Aside0.mk (blk_below (g := gb274) (o := .cells #[.int .i64 t265, .int .i64 t266, .int .i64 t267, .int .i64 t268, .int .i64 t269, .int .i64 t270, .bool t271, .int .i64 t272] 29 (0, 0)) (by (with_reducible repeat (first | refine blk_drewN ?_ _ | refine blk_drew ?_ | refine blk_alloc ?_ _)); exact BK274.out) hb); have n2_ := Aside0.mk (below_step (by repeat (first | (with_reducible first | exact HB.out | apply below_alloc | apply pw_below_drewN | apply below_drew1 | refine below_set ?_ GE273.out | refine below_set ?_ GE274.out) | exact HB.out)) hb); clear BK273; clear BK274; clear HB; have BK273 := n0_; have BK274 := n1_; have HB := n2_; clear n0_ n1_ n2_; (try clear hb); (try clear hb2); (try clear hk); (try clear hi); have hcz124_0 : w123.cell? ⟨gb273, 0, none⟩ = some (.int .i64 t257) := (blk_cell BK273.out 0).trans rfl; have hcz124_1 : w123.cell? ⟨gb273, 1, none⟩ = some (.int .i64 t258) := (blk_cell BK273.out 1).trans rfl; have hcz124_2 : w123.cell? ⟨gb273, 2, none⟩ = some (.int .i64 t259) := (blk_cell BK273.out 2).trans rfl; have hcz124_3 : w123.cell? ⟨gb273, 3, none⟩ = some (.int .i64 t260) := (blk_cell BK273.out 3).trans rfl; have hcz124_4 : w123.cell? ⟨gb273, 4, none⟩ = some (.int .i64 t261) := (blk_cell BK273.out 4).trans rfl; have hcz124_5 : w123.cell? ⟨gb273, 5, none⟩ = some (.int .i64 t262) := (blk_cell BK273.out 5).trans rfl; have hcz124_6 : w123.cell? ⟨gb273, 6, none⟩ = some (.bool t263) := (blk_cell BK273.out 6).trans rfl; have hcz124_7 : w123.cell? ⟨gb273, 7, none⟩ = some (.int .i64 t264) := (blk_cell BK273.out 7).trans rfl; have hfz124_0 := blk_frozen BK273.out 0; have hfz124_1 := blk_frozen BK273.out 1; have hfz124_2 := blk_frozen BK273.out 2; have hfz124_3 := blk_frozen BK273.out 3; have hfz124_4 := blk_frozen BK273.out 4; have hfz124_5 := blk_frozen BK273.out 5; have hfz124_6 := blk_frozen BK273.out 6; have hfz124_7 := blk_frozen BK273.out 7; have hcz125_0 : w123.cell? ⟨gb274, 0, none⟩ = some (.int .i64 t265) := (blk_cell BK274.out 0).trans rfl; have hcz125_1 : w123.cell? ⟨gb274, 1, none⟩ = some (.int .i64 t266) := (blk_cell BK274.out 1).trans rfl; have hcz125_2 : w123.cell? ⟨gb274, 2, none⟩ = some (.int .i64 t267) := (blk_cell BK274.out 2).trans rfl; have hcz125_3 : w123.cell? ⟨gb274, 3, none⟩ = some (.int .i64 t268) := (blk_cell BK274.out 3).trans rfl; have hcz125_4 : w123.cell? ⟨gb274, 4, none⟩ = some (.int .i64 t269) := (blk_cell BK274.out 4).trans rfl; have hcz125_5 : w123.cell? ⟨gb274, 5, none⟩ = some (.int .i64 t270) := (blk_cell BK274.out 5).trans rfl; have hcz125_6 : w123.cell? ⟨gb274, 6, none⟩ = some (.bool t271) := (blk_cell BK274.out 6).trans rfl; have hcz125_7 : w123.cell? ⟨gb274, 7, none⟩ = some (.int .i64 t272) := (blk_cell BK274.out 7).trans rfl; have hfz125_0 := blk_frozen BK274.out 0; have hfz125_1 := blk_frozen BK274.out 1; have hfz125_2 := blk_frozen BK274.out 2; have hfz125_3 := blk_frozen BK274.out 3; have hfz125_4 := blk_frozen BK274.out 4; have hfz125_5 := blk_frozen BK274.out 5; have hfz125_6 := blk_frozen BK274.out 6; have hfz125_7 := blk_frozen BK274.out 7))
             go_ret
             exact ⟨by first | rfl | (simp [*] <;> rfl), by repeat (first | (with_reducible first | exact HB.out | apply below_alloc | apply pw_below_drewN | apply below_drew1 | refine below_set ?_ GE273.out | refine below_set ?_ GE274.out) | exact HB.out)⟩
            ·rw [if_neg c118] at H
             have c118b0 : ((decide (t279 < t280)) == (t275 == (-1))) = false := by simpa using c118
             (try (have c118b1 : decide ((decide (t279 < t280)) = (t275 == (-1))) = false := by simpa using c118))
             (try (have c118b2 : ((decide (t279 < t280)) == (t275 == (-1))) = false := by simpa using c118))
             (try (have c118b3 : ¬ ((decide (t279 < t280)) = (t275 == (-1))) := by simpa using c118))
             clear c118
             exact absurd ((Option.some.inj H).trans HRT.out) (by decide)
          ·rw [if_neg c109] at H
           have c109b0 : (t279 == t280) = false := beq_eq_false_iff_ne.mpr c109
           have c109b1 : (t279 != t280) = true := bne_iff_ne.mpr c109
           exact absurd ((Option.some.inj H).trans HRT.out) (by decide)
         ·rw [if_neg c108] at H
          have c108b0 : (t275 == 0) = false := beq_eq_false_iff_ne.mpr c108
          have c108b1 : (t275 != 0) = true := bne_iff_ne.mpr c108
          by_cases c138 : (t263 != t271) = true
          ·rw [if_pos c138] at H
           have c138b0 : (t263 != t271) = true := c138
           (try (have c138b1 : decide (t263 = t271) = false := by simpa using c138))
           (try (have c138b2 : (t263 == t271) = false := by simpa using c138))
           (try (have c138b3 : ¬ (t263 = t271) := by simpa using c138))
           clear c138
           obtain rfl := Option.some.inj H
           have hnb139 := NB273_274.out
           have hnc139 := NB274_273.out
           have hcz140_0 : wc.cell? ⟨gb273, 0, none⟩ = some (.int .i64 t257) := (blk_cell BK273.out 0).trans rfl
           have hcz140_1 : wc.cell? ⟨gb273, 1, none⟩ = some (.int .i64 t258) := (blk_cell BK273.out 1).trans rfl
           have hcz140_2 : wc.cell? ⟨gb273, 2, none⟩ = some (.int .i64 t259) := (blk_cell BK273.out 2).trans rfl
           have hcz140_3 : wc.cell? ⟨gb273, 3, none⟩ = some (.int .i64 t260) := (blk_cell BK273.out 3).trans rfl
           have hcz140_4 : wc.cell? ⟨gb273, 4, none⟩ = some (.int .i64 t261) := (blk_cell BK273.out 4).trans rfl
           have hcz140_5 : wc.cell? ⟨gb273, 5, none⟩ = some (.int .i64 t262) := (blk_cell BK273.out 5).trans rfl
           have hcz140_6 : wc.cell? ⟨gb273, 6, none⟩ = some (.bool t263) := (blk_cell BK273.out 6).trans rfl
           have hcz140_7 : wc.cell? ⟨gb273, 7, none⟩ = some (.int .i64 t264) := (blk_cell BK273.out 7).trans rfl
           have hfz140_0 := blk_frozen BK273.out 0
           have hfz140_1 := blk_frozen BK273.out 1
           have hfz140_2 := blk_frozen BK273.out 2
           have hfz140_3 := blk_frozen BK273.out 3
           have hfz140_4 := blk_frozen BK273.out 4
           have hfz140_5 := blk_frozen BK273.out 5
           have hfz140_6 := blk_frozen BK273.out 6
           have hfz140_7 := blk_frozen BK273.out 7
           go_wp2_with (first | ((with_reducible refine gate_callee (f := 21) rfl ?_); refine goesL_ (some 42) rfl rfl Try.func21 (by kernel_rfl) rfl #[.agg #[.int .i64 t257, .int .i64 t258, .int .i64 t259, .int .i64 t260, .int .i64 t261, .int .i64 t262, .bool t263, .int .i64 t264]] rfl (by (try simp only [List.map_toArray, List.map_cons, List.map_nil]); first | done | rfl | (simp only [List.length_drop, List.length_take]; rfl)) ?_; (with_reducible refine (impl_SecondsOf.calls kj6 t257 t258 t259 t260 t261 t262 t263 t264 t279 _ A43.out).mono ?_); rintro e w141 ⟨rfl, hb⟩; refine ⟨_, rfl, ?_⟩; have n0_ := Aside0.mk (blk_below (g := gb273) (o := .cells #[.int .i64 t257, .int .i64 t258, .int .i64 t259, .int .i64 t260, .int .i64 t261, .int .i64 t262, .bool t263, .int .i64 t264] 29 (0, 0)) (by (with_reducible repeat (first | refine blk_drewN ?_ _ | refine blk_drew ?_ | refine blk_alloc ?_ _)); exact BK273.out) hb); have n1_ := Aside0.mk (blk_below (g := gb274) (o := .cells #[.int .i64 t265, .int .i64 t266, .int .i64 t267, .int .i64 t268, .int .i64 t269, .int .i64 t270, .bool t271, .int .i64 t272] 29 (0, 0)) (by (with_reducible repeat (first | refine blk_drewN ?_ _ | refine blk_drew ?_ | refine blk_alloc ?_ _)); exact BK274.out) hb); have n2_ := Aside0.mk (below_step (by repeat (first | (with_reducible first | exact HB.out | apply below_alloc | apply pw_below_drewN | apply below_drew1 | refine below_set ?_ GE273.out | refine below_set ?_ GE274.out) | exact HB.out)) hb); clear BK273; clear BK274; clear HB; have BK273 := n0_; have BK274 := n1_; have HB := n2_; clear n0_ n1_ n2_; (try clear hb); (try clear hb2); (try clear hk); (try clear hi); have hcz142_0 : w141.cell? ⟨gb274, 0, none⟩ = some (.int .i64 t265) := (blk_cell BK274.out 0).trans rfl; have hcz142_1 : w141.cell? ⟨gb274, 1, none⟩ = some (.int .i64 t266) := (blk_cell BK274.out 1).trans rfl; have hcz142_2 : w141.cell? ⟨gb274, 2, none⟩ = some (.int .i64 t267) := (blk_cell BK274.out 2).trans rfl; have hcz142_3 : w141.cell? ⟨gb274, 3, none⟩ = some (.int .i64 t268) := (blk_cell BK274.out 3).trans rfl; have hcz142_4 : w141.cell? ⟨gb274, 4, none⟩ = some (.int .i64 t269) := (blk_cell BK274.out 4).trans rfl; have hcz142_5 : w141.cell? ⟨gb274, 5, none⟩ = some (.int .i64 t270) := (blk_cell BK274.out 5).trans rfl; have hcz142_6 : w141.cell? ⟨gb274, 6, none⟩ = some (.bool t271) := (blk_cell BK274.out 6).trans rfl; have hcz142_7 : w141.cell? ⟨gb274, 7, none⟩ = some (.int .i64 t272) := (blk_cell BK274.out 7).trans rfl; have hfz142_0 := blk_frozen BK274.out 0; have hfz142_1 := blk_frozen BK274.out 1; have hfz142_2 := blk_frozen BK274.out 2; have hfz142_3 := blk_frozen BK274.out 3; have hfz142_4 := blk_frozen BK274.out 4; have hfz142_5 := blk_frozen BK274.out 5; have hfz142_6 := blk_frozen BK274.out 6; have hfz142_7 := blk_frozen BK274.out 7) | ((with_reducible refine gate_callee (f := 21) rfl ?_); refine goesL_ (some 44) rfl rfl Try.func21 (by kernel_rfl) rfl #[.agg #[.int .i64 t265, .int .i64 t266, .int .i64 t267, .int .i64 t268, .int .i64 t269, .int .i64 t270, .bool t271, .int .i64 t272]] rfl (by (try simp only [List.map_toArray, List.map_cons, List.map_nil]); first | done | rfl | (simp only [List.length_drop, List.length_take]; rfl)) ?_; (with_reducible refine (impl_SecondsOf.calls kj6 t265 t266 t267 t268 t269 t270 t271 t272 t280 _ A44.out).mono ?_); rintro e w143 ⟨rfl, hb⟩; refine ⟨_, rfl, ?_⟩; have n0_ := Aside0.mk (blk_below (g := gb273) (o := .cells #[.int .i64 t257, .int .i64 t258, .int .i64 t259, .int .i64 t260, .int .i64 t261, .int .i64 t262, .bool t263, .int .i64 t264] 29 (0, 0)) (by (with_reducible repeat (first | refine blk_drewN ?_ _ | refine blk_drew ?_ | refine blk_alloc ?_ _)); exact BK273.out) hb); have n1_ := Aside0.mk (blk_below (g := gb274) (o := .cells #[.int .i64 t265, .int .i64 t266, .int .i64 t267, .int .i64 t268, .int .i64 t269, .int .i64 t270, .bool t271, .int .i64 t272] 29 (0, 0)) (by (with_reducible repeat (first | refine blk_drewN ?_ _ | refine blk_drew ?_ | refine blk_alloc ?_ _)); exact BK274.out) hb); have n2_ := Aside0.mk (below_step (by repeat (first | (with_reducible first | exact HB.out | apply below_alloc | apply pw_below_drewN | apply below_drew1 | refine below_set ?_ GE273.out | refine below_set ?_ GE274.out) | exact HB.out)) hb); clear BK273; clear BK274; clear HB; have BK273 := n0_; have BK274 := n1_; have HB := n2_; clear n0_ n1_ n2_; (try clear hb); (try clear hb2); (try clear hk); (try clear hi); have hcz144_0 : w143.cell? ⟨gb273, 0, none⟩ = some (.int .i64 t257) := (blk_cell BK273.out 0).trans rfl; have hcz144_1 : w143.cell? ⟨gb273, 1, none⟩ = some (.int .i64 t258) := (blk_cell BK273.out 1).trans rfl; have hcz144_2 : w143.cell? ⟨gb273, 2, none⟩ = some (.int .i64 t259) := (blk_cell BK273.out 2).trans rfl; have hcz144_3 : w143.cell? ⟨gb273, 3, none⟩ = some (.int .i64 t260) := (blk_cell BK273.out 3).trans rfl; have hcz144_4 : w143.cell? ⟨gb273, 4, none⟩ = some (.int .i64 t261) := (blk_cell BK273.out 4).trans rfl; have hcz144_5 : w143.cell? ⟨gb273, 5, none⟩ = some (.int .i64 t262) := (blk_cell BK273.out 5).trans rfl; have hcz144_6 : w143.cell? ⟨gb273, 6, none⟩ = some (.bool t263) := (blk_cell BK273.out 6).trans rfl; have hcz144_7 : w143.cell? ⟨gb273, 7, none⟩ = some (.int .i64 t264) := (blk_cell BK273.out 7).trans rfl; have hfz144_0 := blk_frozen BK273.out 0; have hfz144_1 := blk_frozen BK273.out 1; have hfz144_2 := blk_frozen BK273.out 2; have hfz144_3 := blk_frozen BK273.out 3; have hfz144_4 := blk_frozen BK273.out 4; have hfz144_5 := blk_frozen BK273.out 5; have hfz144_6 := blk_frozen BK273.out 6; have hfz144_7 := blk_frozen BK273.out 7; have hcz145_0 : w143.cell? ⟨gb274, 0, none⟩ = some (.int .i64 t265) := (blk_cell BK274.out 0).trans rfl; have hcz145_1 : w143.cell? ⟨gb274, 1, none⟩ = some (.int .i64 t266) := (blk_cell BK274.out 1).trans rfl; have hcz145_2 : w143.cell? ⟨gb274, 2, none⟩ = some (.int .i64 t267) := (blk_cell BK274.out 2).trans rfl; have hcz145_3 : w143.cell? ⟨gb274, 3, none⟩ = some (.int .i64 t268) := (blk_cell BK274.out 3).trans rfl; have hcz145_4 : w143.cell? ⟨gb274, 4, none⟩ = some (.int .i64 t269) := (blk_cell BK274.out 4).trans rfl; have hcz145_5 : w143.cell? ⟨gb274, 5, none⟩ = some (.int .i64 t270) := (blk_cell BK274.out 5).trans rfl; have hcz145_6 : w143.cell? ⟨gb274, 6, none⟩ = some (.bool t271) := (blk_cell BK274.out 6).trans rfl; have hcz145_7 : w143.cell? ⟨gb274, 7, none⟩ = some (.int .i64 t272) := (blk_cell BK274.out 7).trans rfl; have hfz145_0 := blk_frozen BK274.out 0; have hfz145_1 := blk_frozen BK274.out 1; have hfz145_2 := blk_frozen BK274.out 2; have hfz145_3 := blk_frozen BK274.out 3; have hfz145_4 := blk_frozen BK274.out 4; have hfz145_5 := blk_frozen BK274.out 5; have hfz145_6 := blk_frozen BK274.out 6; have hfz145_7 := blk_frozen BK274.out 7))
           go_ret
           exact ⟨by first | rfl | (simp [*] <;> rfl), by repeat (first | (with_reducible first | exact HB.out | apply below_alloc | apply pw_below_drewN | apply below_drew1 | refine below_set ?_ GE273.out | refine below_set ?_ GE274.out) | exact HB.out)⟩
          ·rw [if_neg c138] at H
           have c138b0 : (t263 != t271) = false := by simpa using c138
           (try (have c138b1 : decide (t263 = t271) = true := by simpa using c138))
           (try (have c138b2 : (t263 == t271) = true := by simpa using c138))
           clear c138
           by_cases c146 : ((decide (t279 < t280)) == (t275 == (-1))) = true
           ·rw [if_pos c146] at H
            have c146b0 : ((decide (t279 < t280)) == (t275 == (-1))) = true := c146
            (try (have c146b1 : decide ((decide (t279 < t280)) = (t275 == (-1))) = true := by simpa using c146))
            (try (have c146b2 : ((decide (t279 < t280)) == (t275 == (-1))) = true := by simpa using c146))
            clear c146
            obtain ⟨z1, z2⟩ : decide (t279 < t280) = true ∧ decide (t280 < t279) = false := by
             rcases Int.lt_trichotomy t279 t280 with zl | zl | zl
             ·exact ⟨decide_eq_true zl, decide_eq_false (by omega)⟩
             ·have z1 : decide (t279 < t280) = false := decide_eq_false (by omega)
              have z2 : decide (t280 < t279) = false := decide_eq_false (by omega)
              exfalso; have k0 := (Option.some.inj H).trans HRT.out; have k1 := c146b0; have k2 := c108b0; have k3 := c48b0; have k4 := c47b0; have k5 := c46b0; first | (simp [z1, z2] at k0 k1 k2 k3 k4 k5; done) | (simp [z1, z2] at k0 k1 k2 k3 k4 k5; omega)
             ·have z1 : decide (t279 < t280) = false := decide_eq_false (by omega)
              have z2 : decide (t280 < t279) = true := decide_eq_true zl
              exfalso; have k0 := (Option.some.inj H).trans HRT.out; have k1 := c146b0; have k2 := c108b0; have k3 := c48b0; have k4 := c47b0; have k5 := c46b0; first | (simp [z1, z2] at k0 k1 k2 k3 k4 k5; done) | (simp [z1, z2] at k0 k1 k2 k3 k4 k5; omega)
            obtain rfl := Option.some.inj H
            have hnb147 := NB273_274.out
            have hnc147 := NB274_273.out
            have hcz148_0 : wc.cell? ⟨gb273, 0, none⟩ = some (.int .i64 t257) := (blk_cell BK273.out 0).trans rfl
            have hcz148_1 : wc.cell? ⟨gb273, 1, none⟩ = some (.int .i64 t258) := (blk_cell BK273.out 1).trans rfl
            have hcz148_2 : wc.cell? ⟨gb273, 2, none⟩ = some (.int .i64 t259) := (blk_cell BK273.out 2).trans rfl
            have hcz148_3 : wc.cell? ⟨gb273, 3, none⟩ = some (.int .i64 t260) := (blk_cell BK273.out 3).trans rfl
            have hcz148_4 : wc.cell? ⟨gb273, 4, none⟩ = some (.int .i64 t261) := (blk_cell BK273.out 4).trans rfl
            have hcz148_5 : wc.cell? ⟨gb273, 5, none⟩ = some (.int .i64 t262) := (blk_cell BK273.out 5).trans rfl
            have hcz148_6 : wc.cell? ⟨gb273, 6, none⟩ = some (.bool t263) := (blk_cell BK273.out 6).trans rfl
            have hcz148_7 : wc.cell? ⟨gb273, 7, none⟩ = some (.int .i64 t264) := (blk_cell BK273.out 7).trans rfl
            have hfz148_0 := blk_frozen BK273.out 0
            have hfz148_1 := blk_frozen BK273.out 1
            have hfz148_2 := blk_frozen BK273.out 2
            have hfz148_3 := blk_frozen BK273.out 3
            have hfz148_4 := blk_frozen BK273.out 4
            have hfz148_5 := blk_frozen BK273.out 5
            have hfz148_6 := blk_frozen BK273.out 6
            have hfz148_7 := blk_frozen BK273.out 7
            go_wp2_with (first | ((with_reducible refine gate_callee (f := 21) rfl ?_); refine goesL_ (some 42) rfl rfl Try.func21 (by kernel_rfl) rfl #[.agg #[.int .i64 t257, .int .i64 t258, .int .i64 t259, .int .i64 t260, .int .i64 t261, .int .i64 t262, .bool t263, .int .i64 t264]] rfl (by (try simp only [List.map_toArray, List.map_cons, List.map_nil]); first | done | rfl | (simp only [List.length_drop, List.length_take]; rfl)) ?_; (with_reducible refine (impl_SecondsOf.calls kj6 t257 t258 t259 t260 t261 t262 t263 t264 t279 _ A43.out).mono ?_); rintro e w149 ⟨rfl, hb⟩; refine ⟨_, rfl, ?_⟩; have n0_ := Aside0.mk (blk_below (g := gb273) (o := .cells #[.int .i64 t257, .int .i64 t258, .int .i64 t259, .int .i64 t260, .int .i64 t261, .int .i64 t262, .bool t263, .int .i64 t264] 29 (0, 0)) (by (with_reducible repeat (first | refine blk_drewN ?_ _ | refine blk_drew ?_ | refine blk_alloc ?_ _)); exact BK273.out) hb); have n1_ := Aside0.mk (blk_below (g := gb274) (o := .cells #[.int .i64 t265, .int .i64 t266, .int .i64 t267, .int .i64 t268, .int .i64 t269, .int .i64 t270, .bool t271, .int .i64 t272] 29 (0, 0)) (by (with_reducible repeat (first | refine blk_drewN ?_ _ | refine blk_drew ?_ | refine blk_alloc ?_ _)); exact BK274.out) hb); have n2_ := Aside0.mk (below_step (by repeat (first | (with_reducible first | exact HB.out | apply below_alloc | apply pw_below_drewN | apply below_drew1 | refine below_set ?_ GE273.out | refine below_set ?_ GE274.out) | exact HB.out)) hb); clear BK273; clear BK274; clear HB; have BK273 := n0_; have BK274 := n1_; have HB := n2_; clear n0_ n1_ n2_; (try clear hb); (try clear hb2); (try clear hk); (try clear hi); have hcz150_0 : w149.cell? ⟨gb274, 0, none⟩ = some (.int .i64 t265) := (blk_cell BK274.out 0).trans rfl; have hcz150_1 : w149.cell? ⟨gb274, 1, none⟩ = some (.int .i64 t266) := (blk_cell BK274.out 1).trans rfl; have hcz150_2 : w149.cell? ⟨gb274, 2, none⟩ = some (.int .i64 t267) := (blk_cell BK274.out 2).trans rfl; have hcz150_3 : w149.cell? ⟨gb274, 3, none⟩ = some (.int .i64 t268) := (blk_cell BK274.out 3).trans rfl; have hcz150_4 : w149.cell? ⟨gb274, 4, none⟩ = some (.int .i64 t269) := (blk_cell BK274.out 4).trans rfl; have hcz150_5 : w149.cell? ⟨gb274, 5, none⟩ = some (.int .i64 t270) := (blk_cell BK274.out 5).trans rfl; have hcz150_6 : w149.cell? ⟨gb274, 6, none⟩ = some (.bool t271) := (blk_cell BK274.out 6).trans rfl; have hcz150_7 : w149.cell? ⟨gb274, 7, none⟩ = some (.int .i64 t272) := (blk_cell BK274.out 7).trans rfl; have hfz150_0 := blk_frozen BK274.out 0; have hfz150_1 := blk_frozen BK274.out 1; have hfz150_2 := blk_frozen BK274.out 2; have hfz150_3 := blk_frozen BK274.out 3; have hfz150_4 := blk_frozen BK274.out 4; have hfz150_5 := blk_frozen BK274.out 5; have hfz150_6 := blk_frozen BK274.out 6; have hfz150_7 := blk_frozen BK274.out 7) | ((with_reducible refine gate_callee (f := 21) rfl ?_); refine goesL_ (some 44) rfl rfl Try.func21 (by kernel_rfl) rfl #[.agg #[.int .i64 t265, .int .i64 t266, .int .i64 t267, .int .i64 t268, .int .i64 t269, .int .i64 t270, .bool t271, .int .i64 t272]] rfl (by (try simp only [List.map_toArray, List.map_cons, List.map_nil]); first | done | rfl | (simp only [List.length_drop, List.length_take]; rfl)) ?_; (with_reducible refine (impl_SecondsOf.calls kj6 t265 t266 t267 t268 t269 t270 t271 t272 t280 _ A44.out).mono ?_); rintro e w151 ⟨rfl, hb⟩; refine ⟨_, rfl, ?_⟩; have n0_ := Aside0.mk (blk_below (g := gb273) (o := .cells #[.int .i64 t257, .int .i64 t258, .int .i64 t259, .int .i64 t260, .int .i64 t261, .int .i64 t262, .bool t263, .int .i64 t264] 29 (0, 0)) (by (with_reducible repeat (first | refine blk_drewN ?_ _ | refine blk_drew ?_ | refine blk_alloc ?_ _)); exact BK273.out) hb); have n1_ := Aside0.mk (blk_below (g := gb274) (o := .cells #[.int .i64 t265, .int .i64 t266, .int .i64 t267, .int .i64 t268, .int .i64 t269, .int .i64 t270, .bool t271, .int .i64 t272] 29 (0, 0)) (by (with_reducible repeat (first | refine blk_drewN ?_ _ | refine blk_drew ?_ | refine blk_alloc ?_ _)); exact BK274.out) hb); have n2_ := Aside0.mk (below_step (by repeat (first | (with_reducible first | exact HB.out | apply below_alloc | apply pw_below_drewN | apply below_drew1 | refine below_set ?_ GE273.out | refine below_set ?_ GE274.out) | exact HB.out)) hb); clear BK273; clear BK274; clear HB; have BK273 := n0_; have BK274 := n1_; have HB := n2_; clear n0_ n1_ n2_; (try clear hb); (try clear hb2); (try clear hk); (try clear hi); have hcz152_0 : w151.cell? ⟨gb273, 0, none⟩ = some (.int .i64 t257) := (blk_cell BK273.out 0).trans rfl; have hcz152_1 : w151.cell? ⟨gb273, 1, none⟩ = some (.int .i64 t258) := (blk_cell BK273.out 1).trans rfl; have hcz152_2 : w151.cell? ⟨gb273, 2, none⟩ = some (.int .i64 t259) := (blk_cell BK273.out 2).trans rfl; have hcz152_3 : w151.cell? ⟨gb273, 3, none⟩ = some (.int .i64 t260) := (blk_cell BK273.out 3).trans rfl; have hcz152_4 : w151.cell? ⟨gb273, 4, none⟩ = some (.int .i64 t261) := (blk_cell BK273.out 4).trans rfl; have hcz152_5 : w151.cell? ⟨gb273, 5, none⟩ = some (.int .i64 t262) := (blk_cell BK273.out 5).trans rfl; have hcz152_6 : w151.cell? ⟨gb273, 6, none⟩ = some (.bool t263) := (blk_cell BK273.out 6).trans rfl; have hcz152_7 : w151.cell? ⟨gb273, 7, none⟩ = some (.int .i64 t264) := (blk_cell BK273.out 7).trans rfl; have hfz152_0 := blk_frozen BK273.out 0; have hfz152_1 := blk_frozen BK273.out 1; have hfz152_2 := blk_frozen BK273.out 2; have hfz152_3 := blk_frozen BK273.out 3; have hfz152_4 := blk_frozen BK273.out 4; have hfz152_5 := blk_frozen BK273.out 5; have hfz152_6 := blk_frozen BK273.out 6; have hfz152_7 := blk_frozen BK273.out 7; have hcz153_0 : w151.cell? ⟨gb274, 0, none⟩ = some (.int .i64 t265) := (blk_cell BK274.out 0).trans rfl; have hcz153_1 : w151.cell? ⟨gb274, 1, none⟩ = some (.int .i64 t266) := (blk_cell BK274.out 1).trans rfl; have hcz153_2 : w151.cell? ⟨gb274, 2, none⟩ = some (.int .i64 t267) := (blk_cell BK274.out 2).trans rfl; have hcz153_3 : w151.cell? ⟨gb274, 3, none⟩ = some (.int .i64 t268) := (blk_cell BK274.out 3).trans rfl; have hcz153_4 : w151.cell? ⟨gb274, 4, none⟩ = some (.int .i64 t269) := (blk_cell BK274.out 4).trans rfl; have hcz153_5 : w151.cell? ⟨gb274, 5, none⟩ = some (.int .i64 t270) := (blk_cell BK274.out 5).trans rfl; have hcz153_6 : w151.cell? ⟨gb274, 6, none⟩ = some (.bool t271) := (blk_cell BK274.out 6).trans rfl; have hcz153_7 : w151.cell? ⟨gb274, 7, none⟩ = some (.int .i64 t272) := (blk_cell BK274.out 7).trans rfl; have hfz153_0 := blk_frozen BK274.out 0; have hfz153_1 := blk_frozen BK274.out 1; have hfz153_2 := blk_frozen BK274.out 2; have hfz153_3 := blk_frozen BK274.out 3; have hfz153_4 := blk_frozen BK274.out 4; have hfz153_5 := blk_frozen BK274.out 5; have hfz153_6 := blk_frozen BK274.out 6; have hfz153_7 := blk_frozen BK274.out 7))
            go_ret
            exact ⟨by first | rfl | (simp [*] <;> rfl), by repeat (first | (with_reducible first | exact HB.out | apply below_alloc | apply pw_below_drewN | apply below_drew1 | refine below_set ?_ GE273.out | refine below_set ?_ GE274.out) | exact HB.out)⟩
           ·rw [if_neg c146] at H
            have c146b0 : ((decide (t279 < t280)) == (t275 == (-1))) = false := by simpa using c146
            (try (have c146b1 : decide ((decide (t279 < t280)) = (t275 == (-1))) = false := by simpa using c146))
            (try (have c146b2 : ((decide (t279 < t280)) == (t275 == (-1))) = false := by simpa using c146))
            (try (have c146b3 : ¬ ((decide (t279 < t280)) = (t275 == (-1))) := by simpa using c146))
            clear c146
            exact absurd ((Option.some.inj H).trans HRT.out) (by decide)
       ·rw [if_neg c47] at H
        have c47b0 : decide (t279 < t280) = false := decide_eq_false c47
        clear c47
        exact absurd ((Option.some.inj H).trans HRT.out) (by decide)
      ·rw [if_neg c46] at H
       have c46b0 : (t275 == (-1)) = false := beq_eq_false_iff_ne.mpr c46
       have c46b1 : (t275 != (-1)) = true := bne_iff_ne.mpr c46
       by_cases c166 : t275 = 1
       ·rw [if_pos c166] at H
        have c166b0 : (t275 == 1) = true := beq_iff_eq.mpr c166
        have c166b1 : (t275 != 1) = false := bne_eq_false_iff_eq.mpr c166
        clear c166
        by_cases c167 : t279 > t280
        ·rw [if_pos c167] at H
         have c167b0 : decide (t280 < t279) = true := decide_eq_true c167
         clear c167
         by_cases c168 : t275 = 0
         ·rw [if_pos c168] at H
          have c168b0 : (t275 == 0) = true := beq_iff_eq.mpr c168
          have c168b1 : (t275 != 0) = false := bne_eq_false_iff_eq.mpr c168
          clear c168
          by_cases c169 : t279 = t280
          ·rw [if_pos c169] at H
           have c169b0 : (t279 == t280) = true := beq_iff_eq.mpr c169
           have c169b1 : (t279 != t280) = false := bne_eq_false_iff_eq.mpr c169
           clear c169
           by_cases c170 : (t263 != t271) = true
           ·rw [if_pos c170] at H
            have c170b0 : (t263 != t271) = true := c170
            (try (have c170b1 : decide (t263 = t271) = false := by simpa using c170))
            (try (have c170b2 : (t263 == t271) = false := by simpa using c170))
            (try (have c170b3 : ¬ (t263 = t271) := by simpa using c170))
            clear c170
            obtain rfl := Option.some.inj H
            have hnb171 := NB273_274.out
            have hnc171 := NB274_273.out
            have hcz172_0 : wc.cell? ⟨gb273, 0, none⟩ = some (.int .i64 t257) := (blk_cell BK273.out 0).trans rfl
            have hcz172_1 : wc.cell? ⟨gb273, 1, none⟩ = some (.int .i64 t258) := (blk_cell BK273.out 1).trans rfl
            have hcz172_2 : wc.cell? ⟨gb273, 2, none⟩ = some (.int .i64 t259) := (blk_cell BK273.out 2).trans rfl
            have hcz172_3 : wc.cell? ⟨gb273, 3, none⟩ = some (.int .i64 t260) := (blk_cell BK273.out 3).trans rfl
            have hcz172_4 : wc.cell? ⟨gb273, 4, none⟩ = some (.int .i64 t261) := (blk_cell BK273.out 4).trans rfl
            have hcz172_5 : wc.cell? ⟨gb273, 5, none⟩ = some (.int .i64 t262) := (blk_cell BK273.out 5).trans rfl
            have hcz172_6 : wc.cell? ⟨gb273, 6, none⟩ = some (.bool t263) := (blk_cell BK273.out 6).trans rfl
            have hcz172_7 : wc.cell? ⟨gb273, 7, none⟩ = some (.int .i64 t264) := (blk_cell BK273.out 7).trans rfl
            have hfz172_0 := blk_frozen BK273.out 0
            have hfz172_1 := blk_frozen BK273.out 1
            have hfz172_2 := blk_frozen BK273.out 2
            have hfz172_3 := blk_frozen BK273.out 3
            have hfz172_4 := blk_frozen BK273.out 4
            have hfz172_5 := blk_frozen BK273.out 5
            have hfz172_6 := blk_frozen BK273.out 6
            have hfz172_7 := blk_frozen BK273.out 7
            go_wp2_with (first | ((with_reducible refine gate_callee (f := 21) rfl ?_); refine goesL_ (some 42) rfl rfl Try.func21 (by kernel_rfl) rfl #[.agg #[.int .i64 t257, .int .i64 t258, .int .i64 t259, .int .i64 t260, .int .i64 t261, .int .i64 t262, .bool t263, .int .i64 t264]] rfl (by (try simp only [List.map_toArray, List.map_cons, List.map_nil]); first | done | rfl | (simp only [List.length_drop, List.length_take]; rfl)) ?_; (with_reducible refine (impl_SecondsOf.calls kj6 t257 t258 t259 t260 t261 t262 t263 t264 t279 _ A43.out).mono ?_); rintro e w173 ⟨rfl, hb⟩; refine ⟨_, rfl, ?_⟩; have n0_ := Aside0.mk (blk_below (g := gb273) (o := .cells #[.int .i64 t257, .int .i64 t258, .int .i64 t259, .int .i64 t260, .int .i64 t261, .int .i64 t262, .bool t263, .int .i64 t264] 29 (0, 0)) (by (with_reducible repeat (first | refine blk_drewN ?_ _ | refine blk_drew ?_ | refine blk_alloc ?_ _)); exact BK273.out) hb); have n1_ := Aside0.mk (blk_below (g := gb274) (o := .cells #[.int .i64 t265, .int .i64 t266, .int .i64 t267, .int .i64 t268, .int .i64 t269, .int .i64 t270, .bool t271, .int .i64 t272] 29 (0, 0)) (by (with_reducible repeat (first | refine blk_drewN ?_ _ | refine blk_drew ?_ | refine blk_alloc ?_ _)); exact BK274.out) hb); have n2_ := Aside0.mk (below_step (by repeat (first | (with_reducible first | exact HB.out | apply below_alloc | apply pw_below_drewN | apply below_drew1 | refine below_set ?_ GE273.out | refine below_set ?_ GE274.out) | exact HB.out)) hb); clear BK273; clear BK274; clear HB; have BK273 := n0_; have BK274 := n1_; have HB := n2_; clear n0_ n1_ n2_; (try clear hb); (try clear hb2); (try clear hk); (try clear hi); have hcz174_0 : w173.cell? ⟨gb274, 0, none⟩ = some (.int .i64 t265) := (blk_cell BK274.out 0).trans rfl; have hcz174_1 : w173.cell? ⟨gb274, 1, none⟩ = some (.int .i64 t266) := (blk_cell BK274.out 1).trans rfl; have hcz174_2 : w173.cell? ⟨gb274, 2, none⟩ = some (.int .i64 t267) := (blk_cell BK274.out 2).trans rfl; have hcz174_3 : w173.cell? ⟨gb274, 3, none⟩ = some (.int .i64 t268) := (blk_cell BK274.out 3).trans rfl; have hcz174_4 : w173.cell? ⟨gb274, 4, none⟩ = some (.int .i64 t269) := (blk_cell BK274.out 4).trans rfl; have hcz174_5 : w173.cell? ⟨gb274, 5, none⟩ = some (.int .i64 t270) := (blk_cell BK274.out 5).trans rfl; have hcz174_6 : w173.cell? ⟨gb274, 6, none⟩ = some (.bool t271) := (blk_cell BK274.out 6).trans rfl; have hcz174_7 : w173.cell? ⟨gb274, 7, none⟩ = some (.int .i64 t272) := (blk_cell BK274.out 7).trans rfl; have hfz174_0 := blk_frozen BK274.out 0; have hfz174_1 := blk_frozen BK274.out 1; have hfz174_2 := blk_frozen BK274.out 2; have hfz174_3 := blk_frozen BK274.out 3; have hfz174_4 := blk_frozen BK274.out 4; have hfz174_5 := blk_frozen BK274.out 5; have hfz174_6 := blk_frozen BK274.out 6; have hfz174_7 := blk_frozen BK274.out 7) | ((with_reducible refine gate_callee (f := 21) rfl ?_); refine goesL_ (some 44) rfl rfl Try.func21 (by kernel_rfl) rfl #[.agg #[.int .i64 t265, .int .i64 t266, .int .i64 t267, .int .i64 t268, .int .i64 t269, .int .i64 t270, .bool t271, .int .i64 t272]] rfl (by (try simp only [List.map_toArray, List.map_cons, List.map_nil]); first | done | rfl | (simp only [List.length_drop, List.length_take]; rfl)) ?_; (with_reducible refine (impl_SecondsOf.calls kj6 t265 t266 t267 t268 t269 t270 t271 t272 t280 _ A44.out).mono ?_); rintro e w175 ⟨rfl, hb⟩; refine ⟨_, rfl, ?_⟩; have n0_ := Aside0.mk (blk_below (g := gb273) (o := .cells #[.int .i64 t257, .int .i64 t258, .int .i64 t259, .int .i64 t260, .int .i64 t261, .int .i64 t262, .bool t263, .int .i64 t264] 29 (0, 0)) (by (with_reducible repeat (first | refine blk_drewN ?_ _ | refine blk_drew ?_ | refine blk_alloc ?_ _)); exact BK273.out) hb); have n1_ := Aside0.mk (blk_below (g := gb274) (o := .cells #[.int .i64 t265, .int .i64 t266, .int .i64 t267, .int .i64 t268, .int .i64 t269, .int .i64 t270, .bool t271, .int .i64 t272] 29 (0, 0)) (by (with_reducible repeat (first | refine blk_drewN ?_ _ | refine blk_drew ?_ | refine blk_alloc ?_ _)); exact BK274.out) hb); have n2_ := Aside0.mk (below_step (by repeat (first | (with_reducible first | exact HB.out | apply below_alloc | apply pw_below_drewN | apply below_drew1 | refine below_set ?_ GE273.out | refine below_set ?_ GE274.out) | exact HB.out)) hb); clear BK273; clear BK274; clear HB; have BK273 := n0_; have BK274 := n1_; have HB := n2_; clear n0_ n1_ n2_; (try clear hb); (try clear hb2); (try clear hk); (try clear hi); have hcz176_0 : w175.cell? ⟨gb273, 0, none⟩ = some (.int .i64 t257) := (blk_cell BK273.out 0).trans rfl; have hcz176_1 : w175.cell? ⟨gb273, 1, none⟩ = some (.int .i64 t258) := (blk_cell BK273.out 1).trans rfl; have hcz176_2 : w175.cell? ⟨gb273, 2, none⟩ = some (.int .i64 t259) := (blk_cell BK273.out 2).trans rfl; have hcz176_3 : w175.cell? ⟨gb273, 3, none⟩ = some (.int .i64 t260) := (blk_cell BK273.out 3).trans rfl; have hcz176_4 : w175.cell? ⟨gb273, 4, none⟩ = some (.int .i64 t261) := (blk_cell BK273.out 4).trans rfl; have hcz176_5 : w175.cell? ⟨gb273, 5, none⟩ = some (.int .i64 t262) := (blk_cell BK273.out 5).trans rfl; have hcz176_6 : w175.cell? ⟨gb273, 6, none⟩ = some (.bool t263) := (blk_cell BK273.out 6).trans rfl; have hcz176_7 : w175.cell? ⟨gb273, 7, none⟩ = some (.int .i64 t264) := (blk_cell BK273.out 7).trans rfl; have hfz176_0 := blk_frozen BK273.out 0; have hfz176_1 := blk_frozen BK273.out 1; have hfz176_2 := blk_frozen BK273.out 2; have hfz176_3 := blk_frozen BK273.out 3; have hfz176_4 := blk_frozen BK273.out 4; have hfz176_5 := blk_frozen BK273.out 5; have hfz176_6 := blk_frozen BK273.out 6; have hfz176_7 := blk_frozen BK273.out 7; have hcz177_0 : w175.cell? ⟨gb274, 0, none⟩ = some (.int .i64 t265) := (blk_cell BK274.out 0).trans rfl; have hcz177_1 : w175.cell? ⟨gb274, 1, none⟩ = some (.int .i64 t266) := (blk_cell BK274.out 1).trans rfl; have hcz177_2 : w175.cell? ⟨gb274, 2, none⟩ = some (.int .i64 t267) := (blk_cell BK274.out 2).trans rfl; have hcz177_3 : w175.cell? ⟨gb274, 3, none⟩ = some (.int .i64 t268) := (blk_cell BK274.out 3).trans rfl; have hcz177_4 : w175.cell? ⟨gb274, 4, none⟩ = some (.int .i64 t269) := (blk_cell BK274.out 4).trans rfl; have hcz177_5 : w175.cell? ⟨gb274, 5, none⟩ = some (.int .i64 t270) := (blk_cell BK274.out 5).trans rfl; have hcz177_6 : w175.cell? ⟨gb274, 6, none⟩ = some (.bool t271) := (blk_cell BK274.out 6).trans rfl; have hcz177_7 : w175.cell? ⟨gb274, 7, none⟩ = some (.int .i64 t272) := (blk_cell BK274.out 7).trans rfl; have hfz177_0 := blk_frozen BK274.out 0; have hfz177_1 := blk_frozen BK274.out 1; have hfz177_2 := blk_frozen BK274.out 2; have hfz177_3 := blk_frozen BK274.out 3; have hfz177_4 := blk_frozen BK274.out 4; have hfz177_5 := blk_frozen BK274.out 5; have hfz177_6 := blk_frozen BK274.out 6; have hfz177_7 := blk_frozen BK274.out 7))
            go_ret
            exact ⟨by first | rfl | (simp [*] <;> rfl), by repeat (first | (with_reducible first | exact HB.out | apply below_alloc | apply pw_below_drewN | apply below_drew1 | refine below_set ?_ GE273.out | refine below_set ?_ GE274.out) | exact HB.out)⟩
           ·rw [if_neg c170] at H
            have c170b0 : (t263 != t271) = false := by simpa using c170
            (try (have c170b1 : decide (t263 = t271) = true := by simpa using c170))
            (try (have c170b2 : (t263 == t271) = true := by simpa using c170))
            clear c170
            by_cases c178 : ((decide (t279 < t280)) == (t275 == (-1))) = true
            ·rw [if_pos c178] at H
             have c178b0 : ((decide (t279 < t280)) == (t275 == (-1))) = true := c178
             (try (have c178b1 : decide ((decide (t279 < t280)) = (t275 == (-1))) = true := by simpa using c178))
             (try (have c178b2 : ((decide (t279 < t280)) == (t275 == (-1))) = true := by simpa using c178))
             clear c178
             obtain ⟨z1, z2⟩ : decide (t279 < t280) = false ∧ decide (t280 < t279) = true := by
              rcases Int.lt_trichotomy t279 t280 with zl | zl | zl
              ·have z1 : decide (t279 < t280) = true := decide_eq_true zl
               have z2 : decide (t280 < t279) = false := decide_eq_false (by omega)
               exfalso; have k0 := (Option.some.inj H).trans HRT.out; have k1 := c178b0; have k2 := c169b0; have k3 := c168b0; have k4 := c167b0; have k5 := c166b0; have k6 := c46b0; first | (simp [z1, z2] at k0 k1 k2 k3 k4 k5 k6; done) | (simp [z1, z2] at k0 k1 k2 k3 k4 k5 k6; omega)
              ·have z1 : decide (t279 < t280) = false := decide_eq_false (by omega)
               have z2 : decide (t280 < t279) = false := decide_eq_false (by omega)
               exfalso; have k0 := (Option.some.inj H).trans HRT.out; have k1 := c178b0; have k2 := c169b0; have k3 := c168b0; have k4 := c167b0; have k5 := c166b0; have k6 := c46b0; first | (simp [z1, z2] at k0 k1 k2 k3 k4 k5 k6; done) | (simp [z1, z2] at k0 k1 k2 k3 k4 k5 k6; omega)
              ·exact ⟨decide_eq_false (by omega), decide_eq_true zl⟩
             obtain rfl := Option.some.inj H
             have hnb179 := NB273_274.out
             have hnc179 := NB274_273.out
             have hcz180_0 : wc.cell? ⟨gb273, 0, none⟩ = some (.int .i64 t257) := (blk_cell BK273.out 0).trans rfl
             have hcz180_1 : wc.cell? ⟨gb273, 1, none⟩ = some (.int .i64 t258) := (blk_cell BK273.out 1).trans rfl
             have hcz180_2 : wc.cell? ⟨gb273, 2, none⟩ = some (.int .i64 t259) := (blk_cell BK273.out 2).trans rfl
             have hcz180_3 : wc.cell? ⟨gb273, 3, none⟩ = some (.int .i64 t260) := (blk_cell BK273.out 3).trans rfl
             have hcz180_4 : wc.cell? ⟨gb273, 4, none⟩ = some (.int .i64 t261) := (blk_cell BK273.out 4).trans rfl
             have hcz180_5 : wc.cell? ⟨gb273, 5, none⟩ = some (.int .i64 t262) := (blk_cell BK273.out 5).trans rfl
             have hcz180_6 : wc.cell? ⟨gb273, 6, none⟩ = some (.bool t263) := (blk_cell BK273.out 6).trans rfl
             have hcz180_7 : wc.cell? ⟨gb273, 7, none⟩ = some (.int .i64 t264) := (blk_cell BK273.out 7).trans rfl
             have hfz180_0 := blk_frozen BK273.out 0
             have hfz180_1 := blk_frozen BK273.out 1
             have hfz180_2 := blk_frozen BK273.out 2
             have hfz180_3 := blk_frozen BK273.out 3
             have hfz180_4 := blk_frozen BK273.out 4
             have hfz180_5 := blk_frozen BK273.out 5
             have hfz180_6 := blk_frozen BK273.out 6
             have hfz180_7 := blk_frozen BK273.out 7
             go_wp2_with (first | ((with_reducible refine gate_callee (f := 21) rfl ?_); refine goesL_ (some 42) rfl rfl Try.func21 (by kernel_rfl) rfl #[.agg #[.int .i64 t257, .int .i64 t258, .int .i64 t259, .int .i64 t260, .int .i64 t261, .int .i64 t262, .bool t263, .int .i64 t264]] rfl (by (try simp only [List.map_toArray, List.map_cons, List.map_nil]); first | done | rfl | (simp only [List.length_drop, List.length_take]; rfl)) ?_; (with_reducible refine (impl_SecondsOf.calls kj6 t257 t258 t259 t260 t261 t262 t263 t264 t279 _ A43.out).mono ?_); rintro e w181 ⟨rfl, hb⟩; refine ⟨_, rfl, ?_⟩; have n0_ := Aside0.mk (blk_below (g := gb273) (o := .cells #[.int .i64 t257, .int .i64 t258, .int .i64 t259, .int .i64 t260, .int .i64 t261, .int .i64 t262, .bool t263, .int .i64 t264] 29 (0, 0)) (by (with_reducible repeat (first | refine blk_drewN ?_ _ | refine blk_drew ?_ | refine blk_alloc ?_ _)); exact BK273.out) hb); have n1_ := Aside0.mk (blk_below (g := gb274) (o := .cells #[.int .i64 t265, .int .i64 t266, .int .i64 t267, .int .i64 t268, .int .i64 t269, .int .i64 t270, .bool t271, .int .i64 t272] 29 (0, 0)) (by (with_reducible repeat (first | refine blk_drewN ?_ _ | refine blk_drew ?_ | refine blk_alloc ?_ _)); exact BK274.out) hb); have n2_ := Aside0.mk (below_step (by repeat (first | (with_reducible first | exact HB.out | apply below_alloc | apply pw_below_drewN | apply below_drew1 | refine below_set ?_ GE273.out | refine below_set ?_ GE274.out) | exact HB.out)) hb); clear BK273; clear BK274; clear HB; have BK273 := n0_; have BK274 := n1_; have HB := n2_; clear n0_ n1_ n2_; (try clear hb); (try clear hb2); (try clear hk); (try clear hi); have hcz182_0 : w181.cell? ⟨gb274, 0, none⟩ = some (.int .i64 t265) := (blk_cell BK274.out 0).trans rfl; have hcz182_1 : w181.cell? ⟨gb274, 1, none⟩ = some (.int .i64 t266) := (blk_cell BK274.out 1).trans rfl; have hcz182_2 : w181.cell? ⟨gb274, 2, none⟩ = some (.int .i64 t267) := (blk_cell BK274.out 2).trans rfl; have hcz182_3 : w181.cell? ⟨gb274, 3, none⟩ = some (.int .i64 t268) := (blk_cell BK274.out 3).trans rfl; have hcz182_4 : w181.cell? ⟨gb274, 4, none⟩ = some (.int .i64 t269) := (blk_cell BK274.out 4).trans rfl; have hcz182_5 : w181.cell? ⟨gb274, 5, none⟩ = some (.int .i64 t270) := (blk_cell BK274.out 5).trans rfl; have hcz182_6 : w181.cell? ⟨gb274, 6, none⟩ = some (.bool t271) := (blk_cell BK274.out 6).trans rfl; have hcz182_7 : w181.cell? ⟨gb274, 7, none⟩ = some (.int .i64 t272) := (blk_cell BK274.out 7).trans rfl; have hfz182_0 := blk_frozen BK274.out 0; have hfz182_1 := blk_frozen BK274.out 1; have hfz182_2 := blk_frozen BK274.out 2; have hfz182_3 := blk_frozen BK274.out 3; have hfz182_4 := blk_frozen BK274.out 4; have hfz182_5 := blk_frozen BK274.out 5; have hfz182_6 := blk_frozen BK274.out 6; have hfz182_7 := blk_frozen BK274.out 7) | ((with_reducible refine gate_callee (f := 21) rfl ?_); refine goesL_ (some 44) rfl rfl Try.func21 (by kernel_rfl) rfl #[.agg #[.int .i64 t265, .int .i64 t266, .int .i64 t267, .int .i64 t268, .int .i64 t269, .int .i64 t270, .bool t271, .int .i64 t272]] rfl (by (try simp only [List.map_toArray, List.map_cons, List.map_nil]); first | done | rfl | (simp only [List.length_drop, List.length_take]; rfl)) ?_; (with_reducible refine (impl_SecondsOf.calls kj6 t265 t266 t267 t268 t269 t270 t271 t272 t280 _ A44.out).mono ?_); rintro e w183 ⟨rfl, hb⟩; refine ⟨_, rfl, ?_⟩; have n0_ := Aside0.mk (blk_below (g := gb273) (o := .cells #[.int .i64 t257, .int .i64 t258, .int .i64 t259, .int .i64 t260, .int .i64 t261, .int .i64 t262, .bool t263, .int .i64 t264] 29 (0, 0)) (by (with_reducible repeat (first | refine blk_drewN ?_ _ | refine blk_drew ?_ | refine blk_alloc ?_ _)); exact BK273.out) hb); have n1_ := Aside0.mk (blk_below (g := gb274) (o := .cells #[.int .i64 t265, .int .i64 t266, .int .i64 t267, .int .i64 t268, .int .i64 t269, .int .i64 t270, .bool t271, .int .i64 t272] 29 (0, 0)) (by (with_reducible repeat (first | refine blk_drewN ?_ _ | refine blk_drew ?_ | refine blk_alloc ?_ _)); exact BK274.out) hb); have n2_ := Aside0.mk (below_step (by repeat (first | (with_reducible first | exact HB.out | apply below_alloc | apply pw_below_drewN | apply below_drew1 | refine below_set ?_ GE273.out | refine below_set ?_ GE274.out) | exact HB.out)) hb); clear BK273; clear BK274; clear HB; have BK273 := n0_; have BK274 := n1_; have HB := n2_; clear n0_ n1_ n2_; (try clear hb); (try clear hb2); (try clear hk); (try clear hi); have hcz184_0 : w183.cell? ⟨gb273, 0, none⟩ = some (.int .i64 t257) := (blk_cell BK273.out 0).trans rfl; have hcz184_1 : w183.cell? ⟨gb273, 1, none⟩ = some (.int .i64 t258) := (blk_cell BK273.out 1).trans rfl; have hcz184_2 : w183.cell? ⟨gb273, 2, none⟩ = some (.int .i64 t259) := (blk_cell BK273.out 2).trans rfl; have hcz184_3 : w183.cell? ⟨gb273, 3, none⟩ = some (.int .i64 t260) := (blk_cell BK273.out 3).trans rfl; have hcz184_4 : w183.cell? ⟨gb273, 4, none⟩ = some (.int .i64 t261) := (blk_cell BK273.out 4).trans rfl; have hcz184_5 : w183.cell? ⟨gb273, 5, none⟩ = some (.int .i64 t262) := (blk_cell BK273.out 5).trans rfl; have hcz184_6 : w183.cell? ⟨gb273, 6, none⟩ = some (.bool t263) := (blk_cell BK273.out 6).trans rfl; have hcz184_7 : w183.cell? ⟨gb273, 7, none⟩ = some (.int .i64 t264) := (blk_cell BK273.out 7).trans rfl; have hfz184_0 := blk_frozen BK273.out 0; have hfz184_1 := blk_frozen BK273.out 1; have hfz184_2 := blk_frozen BK273.out 2; have hfz184_3 := blk_frozen BK273.out 3; have hfz184_4 := blk_frozen BK273.out 4; have hfz184_5 := blk_frozen BK273.out 5; have hfz184_6 := blk_frozen BK273.out 6; have hfz184_7 := blk_frozen BK273.out 7; have hcz185_0 : w183.cell? ⟨gb274, 0, none⟩ = some (.int .i64 t265) := (blk_cell BK274.out 0).trans rfl; have hcz185_1 : w183.cell? ⟨gb274, 1, none⟩ = some (.int .i64 t266) := (blk_cell BK274.out 1).trans rfl; have hcz185_2 : w183.cell? ⟨gb274, 2, none⟩ = some (.int .i64 t267) := (blk_cell BK274.out 2).trans rfl; have hcz185_3 : w183.cell? ⟨gb274, 3, none⟩ = some (.int .i64 t268) := (blk_cell BK274.out 3).trans rfl; have hcz185_4 : w183.cell? ⟨gb274, 4, none⟩ = some (.int .i64 t269) := (blk_cell BK274.out 4).trans rfl; have hcz185_5 : w183.cell? ⟨gb274, 5, none⟩ = some (.int .i64 t270) := (blk_cell BK274.out 5).trans rfl; have hcz185_6 : w183.cell? ⟨gb274, 6, none⟩ = some (.bool t271) := (blk_cell BK274.out 6).trans rfl; have hcz185_7 : w183.cell? ⟨gb274, 7, none⟩ = some (.int .i64 t272) := (blk_cell BK274.out 7).trans rfl; have hfz185_0 := blk_frozen BK274.out 0; have hfz185_1 := blk_frozen BK274.out 1; have hfz185_2 := blk_frozen BK274.out 2; have hfz185_3 := blk_frozen BK274.out 3; have hfz185_4 := blk_frozen BK274.out 4; have hfz185_5 := blk_frozen BK274.out 5; have hfz185_6 := blk_frozen BK274.out 6; have hfz185_7 := blk_frozen BK274.out 7))
             go_ret
             exact ⟨by first | rfl | (simp [*] <;> rfl), by repeat (first | (with_reducible first | exact HB.out | apply below_alloc | apply pw_below_drewN | apply below_drew1 | refine below_set ?_ GE273.out | refine below_set ?_ GE274.out) | exact HB.out)⟩
            ·rw [if_neg c178] at H
             have c178b0 : ((decide (t279 < t280)) == (t275 == (-1))) = false := by simpa using c178
             (try (have c178b1 : decide ((decide (t279 < t280)) = (t275 == (-1))) = false := by simpa using c178))
             (try (have c178b2 : ((decide (t279 < t280)) == (t275 == (-1))) = false := by simpa using c178))
             (try (have c178b3 : ¬ ((decide (t279 < t280)) = (t275 == (-1))) := by simpa using c178))
             clear c178
             exact absurd ((Option.some.inj H).trans HRT.out) (by decide)
          ·rw [if_neg c169] at H
           have c169b0 : (t279 == t280) = false := beq_eq_false_iff_ne.mpr c169
           have c169b1 : (t279 != t280) = true := bne_iff_ne.mpr c169
           exact absurd ((Option.some.inj H).trans HRT.out) (by decide)
         ·rw [if_neg c168] at H
          have c168b0 : (t275 == 0) = false := beq_eq_false_iff_ne.mpr c168
          have c168b1 : (t275 != 0) = true := bne_iff_ne.mpr c168
          by_cases c198 : (t263 != t271) = true
          ·rw [if_pos c198] at H
           have c198b0 : (t263 != t271) = true := c198
           (try (have c198b1 : decide (t263 = t271) = false := by simpa using c198))
           (try (have c198b2 : (t263 == t271) = false := by simpa using c198))
           (try (have c198b3 : ¬ (t263 = t271) := by simpa using c198))
           clear c198
           obtain rfl := Option.some.inj H
           have hnb199 := NB273_274.out
           have hnc199 := NB274_273.out
           have hcz200_0 : wc.cell? ⟨gb273, 0, none⟩ = some (.int .i64 t257) := (blk_cell BK273.out 0).trans rfl
           have hcz200_1 : wc.cell? ⟨gb273, 1, none⟩ = some (.int .i64 t258) := (blk_cell BK273.out 1).trans rfl
           have hcz200_2 : wc.cell? ⟨gb273, 2, none⟩ = some (.int .i64 t259) := (blk_cell BK273.out 2).trans rfl
           have hcz200_3 : wc.cell? ⟨gb273, 3, none⟩ = some (.int .i64 t260) := (blk_cell BK273.out 3).trans rfl
           have hcz200_4 : wc.cell? ⟨gb273, 4, none⟩ = some (.int .i64 t261) := (blk_cell BK273.out 4).trans rfl
           have hcz200_5 : wc.cell? ⟨gb273, 5, none⟩ = some (.int .i64 t262) := (blk_cell BK273.out 5).trans rfl
           have hcz200_6 : wc.cell? ⟨gb273, 6, none⟩ = some (.bool t263) := (blk_cell BK273.out 6).trans rfl
           have hcz200_7 : wc.cell? ⟨gb273, 7, none⟩ = some (.int .i64 t264) := (blk_cell BK273.out 7).trans rfl
           have hfz200_0 := blk_frozen BK273.out 0
           have hfz200_1 := blk_frozen BK273.out 1
           have hfz200_2 := blk_frozen BK273.out 2
           have hfz200_3 := blk_frozen BK273.out 3
           have hfz200_4 := blk_frozen BK273.out 4
           have hfz200_5 := blk_frozen BK273.out 5
           have hfz200_6 := blk_frozen BK273.out 6
           have hfz200_7 := blk_frozen BK273.out 7
           go_wp2_with (first | ((with_reducible refine gate_callee (f := 21) rfl ?_); refine goesL_ (some 42) rfl rfl Try.func21 (by kernel_rfl) rfl #[.agg #[.int .i64 t257, .int .i64 t258, .int .i64 t259, .int .i64 t260, .int .i64 t261, .int .i64 t262, .bool t263, .int .i64 t264]] rfl (by (try simp only [List.map_toArray, List.map_cons, List.map_nil]); first | done | rfl | (simp only [List.length_drop, List.length_take]; rfl)) ?_; (with_reducible refine (impl_SecondsOf.calls kj6 t257 t258 t259 t260 t261 t262 t263 t264 t279 _ A43.out).mono ?_); rintro e w201 ⟨rfl, hb⟩; refine ⟨_, rfl, ?_⟩; have n0_ := Aside0.mk (blk_below (g := gb273) (o := .cells #[.int .i64 t257, .int .i64 t258, .int .i64 t259, .int .i64 t260, .int .i64 t261, .int .i64 t262, .bool t263, .int .i64 t264] 29 (0, 0)) (by (with_reducible repeat (first | refine blk_drewN ?_ _ | refine blk_drew ?_ | refine blk_alloc ?_ _)); exact BK273.out) hb); have n1_ := Aside0.mk (blk_below (g := gb274) (o := .cells #[.int .i64 t265, .int .i64 t266, .int .i64 t267, .int .i64 t268, .int .i64 t269, .int .i64 t270, .bool t271, .int .i64 t272] 29 (0, 0)) (by (with_reducible repeat (first | refine blk_drewN ?_ _ | refine blk_drew ?_ | refine blk_alloc ?_ _)); exact BK274.out) hb); have n2_ := Aside0.mk (below_step (by repeat (first | (with_reducible first | exact HB.out | apply below_alloc | apply pw_below_drewN | apply below_drew1 | refine below_set ?_ GE273.out | refine below_set ?_ GE274.out) | exact HB.out)) hb); clear BK273; clear BK274; clear HB; have BK273 := n0_; have BK274 := n1_; have HB := n2_; clear n0_ n1_ n2_; (try clear hb); (try clear hb2); (try clear hk); (try clear hi); have hcz202_0 : w201.cell? ⟨gb274, 0, none⟩ = some (.int .i64 t265) := (blk_cell BK274.out 0).trans rfl; have hcz202_1 : w201.cell? ⟨gb274, 1, none⟩ = some (.int .i64 t266) := (blk_cell BK274.out 1).trans rfl; have hcz202_2 : w201.cell? ⟨gb274, 2, none⟩ = some (.int .i64 t267) := (blk_cell BK274.out 2).trans rfl; have hcz202_3 : w201.cell? ⟨gb274, 3, none⟩ = some (.int .i64 t268) := (blk_cell BK274.out 3).trans rfl; have hcz202_4 : w201.cell? ⟨gb274, 4, none⟩ = some (.int .i64 t269) := (blk_cell BK274.out 4).trans rfl; have hcz202_5 : w201.cell? ⟨gb274, 5, none⟩ = some (.int .i64 t270) := (blk_cell BK274.out 5).trans rfl; have hcz202_6 : w201.cell? ⟨gb274, 6, none⟩ = some (.bool t271) := (blk_cell BK274.out 6).trans rfl; have hcz202_7 : w201.cell? ⟨gb274, 7, none⟩ = some (.int .i64 t272) := (blk_cell BK274.out 7).trans rfl; have hfz202_0 := blk_frozen BK274.out 0; have hfz202_1 := blk_frozen BK274.out 1; have hfz202_2 := blk_frozen BK274.out 2; have hfz202_3 := blk_frozen BK274.out 3; have hfz202_4 := blk_frozen BK274.out 4; have hfz202_5 := blk_frozen BK274.out 5; have hfz202_6 := blk_frozen BK274.out 6; have hfz202_7 := blk_frozen BK274.out 7) | ((with_reducible refine gate_callee (f := 21) rfl ?_); refine goesL_ (some 44) rfl rfl Try.func21 (by kernel_rfl) rfl #[.agg #[.int .i64 t265, .int .i64 t266, .int .i64 t267, .int .i64 t268, .int .i64 t269, .int .i64 t270, .bool t271, .int .i64 t272]] rfl (by (try simp only [List.map_toArray, List.map_cons, List.map_nil]); first | done | rfl | (simp only [List.length_drop, List.length_take]; rfl)) ?_; (with_reducible refine (impl_SecondsOf.calls kj6 t265 t266 t267 t268 t269 t270 t271 t272 t280 _ A44.out).mono ?_); rintro e w203 ⟨rfl, hb⟩; refine ⟨_, rfl, ?_⟩; have n0_ := Aside0.mk (blk_below (g := gb273) (o := .cells #[.int .i64 t257, .int .i64 t258, .int .i64 t259, .int .i64 t260, .int .i64 t261, .int .i64 t262, .bool t263, .int .i64 t264] 29 (0, 0)) (by (with_reducible repeat (first | refine blk_drewN ?_ _ | refine blk_drew ?_ | refine blk_alloc ?_ _)); exact BK273.out) hb); have n1_ := Aside0.mk (blk_below (g := gb274) (o := .cells #[.int .i64 t265, .int .i64 t266, .int .i64 t267, .int .i64 t268, .int .i64 t269, .int .i64 t270, .bool t271, .int .i64 t272] 29 (0, 0)) (by (with_reducible repeat (first | refine blk_drewN ?_ _ | refine blk_drew ?_ | refine blk_alloc ?_ _)); exact BK274.out) hb); have n2_ := Aside0.mk (below_step (by repeat (first | (with_reducible first | exact HB.out | apply below_alloc | apply pw_below_drewN | apply below_drew1 | refine below_set ?_ GE273.out | refine below_set ?_ GE274.out) | exact HB.out)) hb); clear BK273; clear BK274; clear HB; have BK273 := n0_; have BK274 := n1_; have HB := n2_; clear n0_ n1_ n2_; (try clear hb); (try clear hb2); (try clear hk); (try clear hi); have hcz204_0 : w203.cell? ⟨gb273, 0, none⟩ = some (.int .i64 t257) := (blk_cell BK273.out 0).trans rfl; have hcz204_1 : w203.cell? ⟨gb273, 1, none⟩ = some (.int .i64 t258) := (blk_cell BK273.out 1).trans rfl; have hcz204_2 : w203.cell? ⟨gb273, 2, none⟩ = some (.int .i64 t259) := (blk_cell BK273.out 2).trans rfl; have hcz204_3 : w203.cell? ⟨gb273, 3, none⟩ = some (.int .i64 t260) := (blk_cell BK273.out 3).trans rfl; have hcz204_4 : w203.cell? ⟨gb273, 4, none⟩ = some (.int .i64 t261) := (blk_cell BK273.out 4).trans rfl; have hcz204_5 : w203.cell? ⟨gb273, 5, none⟩ = some (.int .i64 t262) := (blk_cell BK273.out 5).trans rfl; have hcz204_6 : w203.cell? ⟨gb273, 6, none⟩ = some (.bool t263) := (blk_cell BK273.out 6).trans rfl; have hcz204_7 : w203.cell? ⟨gb273, 7, none⟩ = some (.int .i64 t264) := (blk_cell BK273.out 7).trans rfl; have hfz204_0 := blk_frozen BK273.out 0; have hfz204_1 := blk_frozen BK273.out 1; have hfz204_2 := blk_frozen BK273.out 2; have hfz204_3 := blk_frozen BK273.out 3; have hfz204_4 := blk_frozen BK273.out 4; have hfz204_5 := blk_frozen BK273.out 5; have hfz204_6 := blk_frozen BK273.out 6; have hfz204_7 := blk_frozen BK273.out 7; have hcz205_0 : w203.cell? ⟨gb274, 0, none⟩ = some (.int .i64 t265) := (blk_cell BK274.out 0).trans rfl; have hcz205_1 : w203.cell? ⟨gb274, 1, none⟩ = some (.int .i64 t266) := (blk_cell BK274.out 1).trans rfl; have hcz205_2 : w203.cell? ⟨gb274, 2, none⟩ = some (.int .i64 t267) := (blk_cell BK274.out 2).trans rfl; have hcz205_3 : w203.cell? ⟨gb274, 3, none⟩ = some (.int .i64 t268) := (blk_cell BK274.out 3).trans rfl; have hcz205_4 : w203.cell? ⟨gb274, 4, none⟩ = some (.int .i64 t269) := (blk_cell BK274.out 4).trans rfl; have hcz205_5 : w203.cell? ⟨gb274, 5, none⟩ = some (.int .i64 t270) := (blk_cell BK274.out 5).trans rfl; have hcz205_6 : w203.cell? ⟨gb274, 6, none⟩ = some (.bool t271) := (blk_cell BK274.out 6).trans rfl; have hcz205_7 : w203.cell? ⟨gb274, 7, none⟩ = some (.int .i64 t272) := (blk_cell BK274.out 7).trans rfl; have hfz205_0 := blk_frozen BK274.out 0; have hfz205_1 := blk_frozen BK274.out 1; have hfz205_2 := blk_frozen BK274.out 2; have hfz205_3 := blk_frozen BK274.out 3; have hfz205_4 := blk_frozen BK274.out 4; have hfz205_5 := blk_frozen BK274.out 5; have hfz205_6 := blk_frozen BK274.out 6; have hfz205_7 := blk_frozen BK274.out 7))
           go_ret
           exact ⟨by first | rfl | (simp [*] <;> rfl), by repeat (first | (with_reducible first | exact HB.out | apply below_alloc | apply pw_below_drewN | apply below_drew1 | refine below_set ?_ GE273.out | refine below_set ?_ GE274.out) | exact HB.out)⟩
          ·rw [if_neg c198] at H
           have c198b0 : (t263 != t271) = false := by simpa using c198
           (try (have c198b1 : decide (t263 = t271) = true := by simpa using c198))
           (try (have c198b2 : (t263 == t271) = true := by simpa using c198))
           clear c198
           by_cases c206 : ((decide (t279 < t280)) == (t275 == (-1))) = true
           ·rw [if_pos c206] at H
            have c206b0 : ((decide (t279 < t280)) == (t275 == (-1))) = true := c206
            (try (have c206b1 : decide ((decide (t279 < t280)) = (t275 == (-1))) = true := by simpa using c206))
            (try (have c206b2 : ((decide (t279 < t280)) == (t275 == (-1))) = true := by simpa using c206))
            clear c206
            obtain ⟨z1, z2⟩ : decide (t279 < t280) = false ∧ decide (t280 < t279) = true := by
             rcases Int.lt_trichotomy t279 t280 with zl | zl | zl
             ·have z1 : decide (t279 < t280) = true := decide_eq_true zl
              have z2 : decide (t280 < t279) = false := decide_eq_false (by omega)
              exfalso; have k0 := (Option.some.inj H).trans HRT.out; have k1 := c206b0; have k2 := c168b0; have k3 := c167b0; have k4 := c166b0; have k5 := c46b0; first | (simp [z1, z2] at k0 k1 k2 k3 k4 k5; done) | (simp [z1, z2] at k0 k1 k2 k3 k4 k5; omega)
             ·have z1 : decide (t279 < t280) = false := decide_eq_false (by omega)
              have z2 : decide (t280 < t279) = false := decide_eq_false (by omega)
              exfalso; have k0 := (Option.some.inj H).trans HRT.out; have k1 := c206b0; have k2 := c168b0; have k3 := c167b0; have k4 := c166b0; have k5 := c46b0; first | (simp [z1, z2] at k0 k1 k2 k3 k4 k5; done) | (simp [z1, z2] at k0 k1 k2 k3 k4 k5; omega)
             ·exact ⟨decide_eq_false (by omega), decide_eq_true zl⟩
            obtain rfl := Option.some.inj H
            have hnb207 := NB273_274.out
            have hnc207 := NB274_273.out
            have hcz208_0 : wc.cell? ⟨gb273, 0, none⟩ = some (.int .i64 t257) := (blk_cell BK273.out 0).trans rfl
            have hcz208_1 : wc.cell? ⟨gb273, 1, none⟩ = some (.int .i64 t258) := (blk_cell BK273.out 1).trans rfl
            have hcz208_2 : wc.cell? ⟨gb273, 2, none⟩ = some (.int .i64 t259) := (blk_cell BK273.out 2).trans rfl
            have hcz208_3 : wc.cell? ⟨gb273, 3, none⟩ = some (.int .i64 t260) := (blk_cell BK273.out 3).trans rfl
            have hcz208_4 : wc.cell? ⟨gb273, 4, none⟩ = some (.int .i64 t261) := (blk_cell BK273.out 4).trans rfl
            have hcz208_5 : wc.cell? ⟨gb273, 5, none⟩ = some (.int .i64 t262) := (blk_cell BK273.out 5).trans rfl
            have hcz208_6 : wc.cell? ⟨gb273, 6, none⟩ = some (.bool t263) := (blk_cell BK273.out 6).trans rfl
            have hcz208_7 : wc.cell? ⟨gb273, 7, none⟩ = some (.int .i64 t264) := (blk_cell BK273.out 7).trans rfl
            have hfz208_0 := blk_frozen BK273.out 0
            have hfz208_1 := blk_frozen BK273.out 1
            have hfz208_2 := blk_frozen BK273.out 2
            have hfz208_3 := blk_frozen BK273.out 3
            have hfz208_4 := blk_frozen BK273.out 4
            have hfz208_5 := blk_frozen BK273.out 5
            have hfz208_6 := blk_frozen BK273.out 6
            have hfz208_7 := blk_frozen BK273.out 7
            go_wp2_with (first | ((with_reducible refine gate_callee (f := 21) rfl ?_); refine goesL_ (some 42) rfl rfl Try.func21 (by kernel_rfl) rfl #[.agg #[.int .i64 t257, .int .i64 t258, .int .i64 t259, .int .i64 t260, .int .i64 t261, .int .i64 t262, .bool t263, .int .i64 t264]] rfl (by (try simp only [List.map_toArray, List.map_cons, List.map_nil]); first | done | rfl | (simp only [List.length_drop, List.length_take]; rfl)) ?_; (with_reducible refine (impl_SecondsOf.calls kj6 t257 t258 t259 t260 t261 t262 t263 t264 t279 _ A43.out).mono ?_); rintro e w209 ⟨rfl, hb⟩; refine ⟨_, rfl, ?_⟩; have n0_ := Aside0.mk (blk_below (g := gb273) (o := .cells #[.int .i64 t257, .int .i64 t258, .int .i64 t259, .int .i64 t260, .int .i64 t261, .int .i64 t262, .bool t263, .int .i64 t264] 29 (0, 0)) (by (with_reducible repeat (first | refine blk_drewN ?_ _ | refine blk_drew ?_ | refine blk_alloc ?_ _)); exact BK273.out) hb); have n1_ := Aside0.mk (blk_below (g := gb274) (o := .cells #[.int .i64 t265, .int .i64 t266, .int .i64 t267, .int .i64 t268, .int .i64 t269, .int .i64 t270, .bool t271, .int .i64 t272] 29 (0, 0)) (by (with_reducible repeat (first | refine blk_drewN ?_ _ | refine blk_drew ?_ | refine blk_alloc ?_ _)); exact BK274.out) hb); have n2_ := Aside0.mk (below_step (by repeat (first | (with_reducible first | exact HB.out | apply below_alloc | apply pw_below_drewN | apply below_drew1 | refine below_set ?_ GE273.out | refine below_set ?_ GE274.out) | exact HB.out)) hb); clear BK273; clear BK274; clear HB; have BK273 := n0_; have BK274 := n1_; have HB := n2_; clear n0_ n1_ n2_; (try clear hb); (try clear hb2); (try clear hk); (try clear hi); have hcz210_0 : w209.cell? ⟨gb274, 0, none⟩ = some (.int .i64 t265) := (blk_cell BK274.out 0).trans rfl; have hcz210_1 : w209.cell? ⟨gb274, 1, none⟩ = some (.int .i64 t266) := (blk_cell BK274.out 1).trans rfl; have hcz210_2 : w209.cell? ⟨gb274, 2, none⟩ = some (.int .i64 t267) := (blk_cell BK274.out 2).trans rfl; have hcz210_3 : w209.cell? ⟨gb274, 3, none⟩ = some (.int .i64 t268) := (blk_cell BK274.out 3).trans rfl; have hcz210_4 : w209.cell? ⟨gb274, 4, none⟩ = some (.int .i64 t269) := (blk_cell BK274.out 4).trans rfl; have hcz210_5 : w209.cell? ⟨gb274, 5, none⟩ = some (.int .i64 t270) := (blk_cell BK274.out 5).trans rfl; have hcz210_6 : w209.cell? ⟨gb274, 6, none⟩ = some (.bool t271) := (blk_cell BK274.out 6).trans rfl; have hcz210_7 : w209.cell? ⟨gb274, 7, none⟩ = some (.int .i64 t272) := (blk_cell BK274.out 7).trans rfl; have hfz210_0 := blk_frozen BK274.out 0; have hfz210_1 := blk_frozen BK274.out 1; have hfz210_2 := blk_frozen BK274.out 2; have hfz210_3 := blk_frozen BK274.out 3; have hfz210_4 := blk_frozen BK274.out 4; have hfz210_5 := blk_frozen BK274.out 5; have hfz210_6 := blk_frozen BK274.out 6; have hfz210_7 := blk_frozen BK274.out 7) | ((with_reducible refine gate_callee (f := 21) rfl ?_); refine goesL_ (some 44) rfl rfl Try.func21 (by kernel_rfl) rfl #[.agg #[.int .i64 t265, .int .i64 t266, .int .i64 t267, .int .i64 t268, .int .i64 t269, .int .i64 t270, .bool t271, .int .i64 t272]] rfl (by (try simp only [List.map_toArray, List.map_cons, List.map_nil]); first | done | rfl | (simp only [List.length_drop, List.length_take]; rfl)) ?_; (with_reducible refine (impl_SecondsOf.calls kj6 t265 t266 t267 t268 t269 t270 t271 t272 t280 _ A44.out).mono ?_); rintro e w211 ⟨rfl, hb⟩; refine ⟨_, rfl, ?_⟩; have n0_ := Aside0.mk (blk_below (g := gb273) (o := .cells #[.int .i64 t257, .int .i64 t258, .int .i64 t259, .int .i64 t260, .int .i64 t261, .int .i64 t262, .bool t263, .int .i64 t264] 29 (0, 0)) (by (with_reducible repeat (first | refine blk_drewN ?_ _ | refine blk_drew ?_ | refine blk_alloc ?_ _)); exact BK273.out) hb); have n1_ := Aside0.mk (blk_below (g := gb274) (o := .cells #[.int .i64 t265, .int .i64 t266, .int .i64 t267, .int .i64 t268, .int .i64 t269, .int .i64 t270, .bool t271, .int .i64 t272] 29 (0, 0)) (by (with_reducible repeat (first | refine blk_drewN ?_ _ | refine blk_drew ?_ | refine blk_alloc ?_ _)); exact BK274.out) hb); have n2_ := Aside0.mk (below_step (by repeat (first | (with_reducible first | exact HB.out | apply below_alloc | apply pw_below_drewN | apply below_drew1 | refine below_set ?_ GE273.out | refine below_set ?_ GE274.out) | exact HB.out)) hb); clear BK273; clear BK274; clear HB; have BK273 := n0_; have BK274 := n1_; have HB := n2_; clear n0_ n1_ n2_; (try clear hb); (try clear hb2); (try clear hk); (try clear hi); have hcz212_0 : w211.cell? ⟨gb273, 0, none⟩ = some (.int .i64 t257) := (blk_cell BK273.out 0).trans rfl; have hcz212_1 : w211.cell? ⟨gb273, 1, none⟩ = some (.int .i64 t258) := (blk_cell BK273.out 1).trans rfl; have hcz212_2 : w211.cell? ⟨gb273, 2, none⟩ = some (.int .i64 t259) := (blk_cell BK273.out 2).trans rfl; have hcz212_3 : w211.cell? ⟨gb273, 3, none⟩ = some (.int .i64 t260) := (blk_cell BK273.out 3).trans rfl; have hcz212_4 : w211.cell? ⟨gb273, 4, none⟩ = some (.int .i64 t261) := (blk_cell BK273.out 4).trans rfl; have hcz212_5 : w211.cell? ⟨gb273, 5, none⟩ = some (.int .i64 t262) := (blk_cell BK273.out 5).trans rfl; have hcz212_6 : w211.cell? ⟨gb273, 6, none⟩ = some (.bool t263) := (blk_cell BK273.out 6).trans rfl; have hcz212_7 : w211.cell? ⟨gb273, 7, none⟩ = some (.int .i64 t264) := (blk_cell BK273.out 7).trans rfl; have hfz212_0 := blk_frozen BK273.out 0; have hfz212_1 := blk_frozen BK273.out 1; have hfz212_2 := blk_frozen BK273.out 2; have hfz212_3 := blk_frozen BK273.out 3; have hfz212_4 := blk_frozen BK273.out 4; have hfz212_5 := blk_frozen BK273.out 5; have hfz212_6 := blk_frozen BK273.out 6; have hfz212_7 := blk_frozen BK273.out 7; have hcz213_0 : w211.cell? ⟨gb274, 0, none⟩ = some (.int .i64 t265) := (blk_cell BK274.out 0).trans rfl; have hcz213_1 : w211.cell? ⟨gb274, 1, none⟩ = some (.int .i64 t266) := (blk_cell BK274.out 1).trans rfl; have hcz213_2 : w211.cell? ⟨gb274, 2, none⟩ = some (.int .i64 t267) := (blk_cell BK274.out 2).trans rfl; have hcz213_3 : w211.cell? ⟨gb274, 3, none⟩ = some (.int .i64 t268) := (blk_cell BK274.out 3).trans rfl; have hcz213_4 : w211.cell? ⟨gb274, 4, none⟩ = some (.int .i64 t269) := (blk_cell BK274.out 4).trans rfl; have hcz213_5 : w211.cell? ⟨gb274, 5, none⟩ = some (.int .i64 t270) := (blk_cell BK274.out 5).trans rfl; have hcz213_6 : w211.cell? ⟨gb274, 6, none⟩ = some (.bool t271) := (blk_cell BK274.out 6).trans rfl; have hcz213_7 : w211.cell? ⟨gb274, 7, none⟩ = some (.int .i64 t272) := (blk_cell BK274.out 7).trans rfl; have hfz213_0 := blk_frozen BK274.out 0; have hfz213_1 := blk_frozen BK274.out 1; have hfz213_2 := blk_frozen BK274.out 2; have hfz213_3 := blk_frozen BK274.out 3; have hfz213_4 := blk_frozen BK274.out 4; have hfz213_5 := blk_frozen BK274.out 5; have hfz213_6 := blk_frozen BK274.out 6; have hfz213_7 := blk_frozen BK274.out 7))
            go_ret
            exact ⟨by first | rfl | (simp [*] <;> rfl), by repeat (first | (with_reducible first | exact HB.out | apply below_alloc | apply pw_below_drewN | apply below_drew1 | refine below_set ?_ GE273.out | refine below_set ?_ GE274.out) | exact HB.out)⟩
           ·rw [if_neg c206] at H
            have c206b0 : ((decide (t279 < t280)) == (t275 == (-1))) = false := by simpa using c206
            (try (have c206b1 : decide ((decide (t279 < t280)) = (t275 == (-1))) = false := by simpa using c206))
            (try (have c206b2 : ((decide (t279 < t280)) == (t275 == (-1))) = false := by simpa using c206))
            (try (have c206b3 : ¬ ((decide (t279 < t280)) = (t275 == (-1))) := by simpa using c206))
            clear c206
            exact absurd ((Option.some.inj H).trans HRT.out) (by decide)
        ·rw [if_neg c167] at H
         have c167b0 : decide (t280 < t279) = false := decide_eq_false c167
         clear c167
         exact absurd ((Option.some.inj H).trans HRT.out) (by decide)
       ·rw [if_neg c166] at H
        have c166b0 : (t275 == 1) = false := beq_eq_false_iff_ne.mpr c166
        have c166b1 : (t275 != 1) = true := bne_iff_ne.mpr c166
        by_cases c226 : t275 = 0
        ·rw [if_pos c226] at H
         have c226b0 : (t275 == 0) = true := beq_iff_eq.mpr c226
         have c226b1 : (t275 != 0) = false := bne_eq_false_iff_eq.mpr c226
         clear c226
         by_cases c227 : t279 = t280
         ·rw [if_pos c227] at H
          have c227b0 : (t279 == t280) = true := beq_iff_eq.mpr c227
          have c227b1 : (t279 != t280) = false := bne_eq_false_iff_eq.mpr c227
          clear c227
          by_cases c228 : (t263 != t271) = true
          ·rw [if_pos c228] at H
           have c228b0 : (t263 != t271) = true := c228
           (try (have c228b1 : decide (t263 = t271) = false := by simpa using c228))
           (try (have c228b2 : (t263 == t271) = false := by simpa using c228))
           (try (have c228b3 : ¬ (t263 = t271) := by simpa using c228))
           clear c228
           obtain rfl := Option.some.inj H
           have hnb229 := NB273_274.out
           have hnc229 := NB274_273.out
           have hcz230_0 : wc.cell? ⟨gb273, 0, none⟩ = some (.int .i64 t257) := (blk_cell BK273.out 0).trans rfl
           have hcz230_1 : wc.cell? ⟨gb273, 1, none⟩ = some (.int .i64 t258) := (blk_cell BK273.out 1).trans rfl
           have hcz230_2 : wc.cell? ⟨gb273, 2, none⟩ = some (.int .i64 t259) := (blk_cell BK273.out 2).trans rfl
           have hcz230_3 : wc.cell? ⟨gb273, 3, none⟩ = some (.int .i64 t260) := (blk_cell BK273.out 3).trans rfl
           have hcz230_4 : wc.cell? ⟨gb273, 4, none⟩ = some (.int .i64 t261) := (blk_cell BK273.out 4).trans rfl
           have hcz230_5 : wc.cell? ⟨gb273, 5, none⟩ = some (.int .i64 t262) := (blk_cell BK273.out 5).trans rfl
           have hcz230_6 : wc.cell? ⟨gb273, 6, none⟩ = some (.bool t263) := (blk_cell BK273.out 6).trans rfl
           have hcz230_7 : wc.cell? ⟨gb273, 7, none⟩ = some (.int .i64 t264) := (blk_cell BK273.out 7).trans rfl
           have hfz230_0 := blk_frozen BK273.out 0
           have hfz230_1 := blk_frozen BK273.out 1
           have hfz230_2 := blk_frozen BK273.out 2
           have hfz230_3 := blk_frozen BK273.out 3
           have hfz230_4 := blk_frozen BK273.out 4
           have hfz230_5 := blk_frozen BK273.out 5
           have hfz230_6 := blk_frozen BK273.out 6
           have hfz230_7 := blk_frozen BK273.out 7
           go_wp2_with (first | ((with_reducible refine gate_callee (f := 21) rfl ?_); refine goesL_ (some 42) rfl rfl Try.func21 (by kernel_rfl) rfl #[.agg #[.int .i64 t257, .int .i64 t258, .int .i64 t259, .int .i64 t260, .int .i64 t261, .int .i64 t262, .bool t263, .int .i64 t264]] rfl (by (try simp only [List.map_toArray, List.map_cons, List.map_nil]); first | done | rfl | (simp only [List.length_drop, List.length_take]; rfl)) ?_; (with_reducible refine (impl_SecondsOf.calls kj6 t257 t258 t259 t260 t261 t262 t263 t264 t279 _ A43.out).mono ?_); rintro e w231 ⟨rfl, hb⟩; refine ⟨_, rfl, ?_⟩; have n0_ := Aside0.mk (blk_below (g := gb273) (o := .cells #[.int .i64 t257, .int .i64 t258, .int .i64 t259, .int .i64 t260, .int .i64 t261, .int .i64 t262, .bool t263, .int .i64 t264] 29 (0, 0)) (by (with_reducible repeat (first | refine blk_drewN ?_ _ | refine blk_drew ?_ | refine blk_alloc ?_ _)); exact BK273.out) hb); have n1_ := Aside0.mk (blk_below (g := gb274) (o := .cells #[.int .i64 t265, .int .i64 t266, .int .i64 t267, .int .i64 t268, .int .i64 t269, .int .i64 t270, .bool t271, .int .i64 t272] 29 (0, 0)) (by (with_reducible repeat (first | refine blk_drewN ?_ _ | refine blk_drew ?_ | refine blk_alloc ?_ _)); exact BK274.out) hb); have n2_ := Aside0.mk (below_step (by repeat (first | (with_reducible first | exact HB.out | apply below_alloc | apply pw_below_drewN | apply below_drew1 | refine below_set ?_ GE273.out | refine below_set ?_ GE274.out) | exact HB.out)) hb); clear BK273; clear BK274; clear HB; have BK273 := n0_; have BK274 := n1_; have HB := n2_; clear n0_ n1_ n2_; (try clear hb); (try clear hb2); (try clear hk); (try clear hi); have hcz232_0 : w231.cell? ⟨gb274, 0, none⟩ = some (.int .i64 t265) := (blk_cell BK274.out 0).trans rfl; have hcz232_1 : w231.cell? ⟨gb274, 1, none⟩ = some (.int .i64 t266) := (blk_cell BK274.out 1).trans rfl; have hcz232_2 : w231.cell? ⟨gb274, 2, none⟩ = some (.int .i64 t267) := (blk_cell BK274.out 2).trans rfl; have hcz232_3 : w231.cell? ⟨gb274, 3, none⟩ = some (.int .i64 t268) := (blk_cell BK274.out 3).trans rfl; have hcz232_4 : w231.cell? ⟨gb274, 4, none⟩ = some (.int .i64 t269) := (blk_cell BK274.out 4).trans rfl; have hcz232_5 : w231.cell? ⟨gb274, 5, none⟩ = some (.int .i64 t270) := (blk_cell BK274.out 5).trans rfl; have hcz232_6 : w231.cell? ⟨gb274, 6, none⟩ = some (.bool t271) := (blk_cell BK274.out 6).trans rfl; have hcz232_7 : w231.cell? ⟨gb274, 7, none⟩ = some (.int .i64 t272) := (blk_cell BK274.out 7).trans rfl; have hfz232_0 := blk_frozen BK274.out 0; have hfz232_1 := blk_frozen BK274.out 1; have hfz232_2 := blk_frozen BK274.out 2; have hfz232_3 := blk_frozen BK274.out 3; have hfz232_4 := blk_frozen BK274.out 4; have hfz232_5 := blk_frozen BK274.out 5; have hfz232_6 := blk_frozen BK274.out 6; have hfz232_7 := blk_frozen BK274.out 7) | ((with_reducible refine gate_callee (f := 21) rfl ?_); refine goesL_ (some 44) rfl rfl Try.func21 (by kernel_rfl) rfl #[.agg #[.int .i64 t265, .int .i64 t266, .int .i64 t267, .int .i64 t268, .int .i64 t269, .int .i64 t270, .bool t271, .int .i64 t272]] rfl (by (try simp only [List.map_toArray, List.map_cons, List.map_nil]); first | done | rfl | (simp only [List.length_drop, List.length_take]; rfl)) ?_; (with_reducible refine (impl_SecondsOf.calls kj6 t265 t266 t267 t268 t269 t270 t271 t272 t280 _ A44.out).mono ?_); rintro e w233 ⟨rfl, hb⟩; refine ⟨_, rfl, ?_⟩; have n0_ := Aside0.mk (blk_below (g := gb273) (o := .cells #[.int .i64 t257, .int .i64 t258, .int .i64 t259, .int .i64 t260, .int .i64 t261, .int .i64 t262, .bool t263, .int .i64 t264] 29 (0, 0)) (by (with_reducible repeat (first | refine blk_drewN ?_ _ | refine blk_drew ?_ | refine blk_alloc ?_ _)); exact BK273.out) hb); have n1_ := Aside0.mk (blk_below (g := gb274) (o := .cells #[.int .i64 t265, .int .i64 t266, .int .i64 t267, .int .i64 t268, .int .i64 t269, .int .i64 t270, .bool t271, .int .i64 t272] 29 (0, 0)) (by (with_reducible repeat (first | refine blk_drewN ?_ _ | refine blk_drew ?_ | refine blk_alloc ?_ _)); exact BK274.out) hb); have n2_ := Aside0.mk (below_step (by repeat (first | (with_reducible first | exact HB.out | apply below_alloc | apply pw_below_drewN | apply below_drew1 | refine below_set ?_ GE273.out | refine below_set ?_ GE274.out) | exact HB.out)) hb); clear BK273; clear BK274; clear HB; have BK273 := n0_; have BK274 := n1_; have HB := n2_; clear n0_ n1_ n2_; (try clear hb); (try clear hb2); (try clear hk); (try clear hi); have hcz234_0 : w233.cell? ⟨gb273, 0, none⟩ = some (.int .i64 t257) := (blk_cell BK273.out 0).trans rfl; have hcz234_1 : w233.cell? ⟨gb273, 1, none⟩ = some (.int .i64 t258) := (blk_cell BK273.out 1).trans rfl; have hcz234_2 : w233.cell? ⟨gb273, 2, none⟩ = some (.int .i64 t259) := (blk_cell BK273.out 2).trans rfl; have hcz234_3 : w233.cell? ⟨gb273, 3, none⟩ = some (.int .i64 t260) := (blk_cell BK273.out 3).trans rfl; have hcz234_4 : w233.cell? ⟨gb273, 4, none⟩ = some (.int .i64 t261) := (blk_cell BK273.out 4).trans rfl; have hcz234_5 : w233.cell? ⟨gb273, 5, none⟩ = some (.int .i64 t262) := (blk_cell BK273.out 5).trans rfl; have hcz234_6 : w233.cell? ⟨gb273, 6, none⟩ = some (.bool t263) := (blk_cell BK273.out 6).trans rfl; have hcz234_7 : w233.cell? ⟨gb273, 7, none⟩ = some (.int .i64 t264) := (blk_cell BK273.out 7).trans rfl; have hfz234_0 := blk_frozen BK273.out 0; have hfz234_1 := blk_frozen BK273.out 1; have hfz234_2 := blk_frozen BK273.out 2; have hfz234_3 := blk_frozen BK273.out 3; have hfz234_4 := blk_frozen BK273.out 4; have hfz234_5 := blk_frozen BK273.out 5; have hfz234_6 := blk_frozen BK273.out 6; have hfz234_7 := blk_frozen BK273.out 7; have hcz235_0 : w233.cell? ⟨gb274, 0, none⟩ = some (.int .i64 t265) := (blk_cell BK274.out 0).trans rfl; have hcz235_1 : w233.cell? ⟨gb274, 1, none⟩ = some (.int .i64 t266) := (blk_cell BK274.out 1).trans rfl; have hcz235_2 : w233.cell? ⟨gb274, 2, none⟩ = some (.int .i64 t267) := (blk_cell BK274.out 2).trans rfl; have hcz235_3 : w233.cell? ⟨gb274, 3, none⟩ = some (.int .i64 t268) := (blk_cell BK274.out 3).trans rfl; have hcz235_4 : w233.cell? ⟨gb274, 4, none⟩ = some (.int .i64 t269) := (blk_cell BK274.out 4).trans rfl; have hcz235_5 : w233.cell? ⟨gb274, 5, none⟩ = some (.int .i64 t270) := (blk_cell BK274.out 5).trans rfl; have hcz235_6 : w233.cell? ⟨gb274, 6, none⟩ = some (.bool t271) := (blk_cell BK274.out 6).trans rfl; have hcz235_7 : w233.cell? ⟨gb274, 7, none⟩ = some (.int .i64 t272) := (blk_cell BK274.out 7).trans rfl; have hfz235_0 := blk_frozen BK274.out 0; have hfz235_1 := blk_frozen BK274.out 1; have hfz235_2 := blk_frozen BK274.out 2; have hfz235_3 := blk_frozen BK274.out 3; have hfz235_4 := blk_frozen BK274.out 4; have hfz235_5 := blk_frozen BK274.out 5; have hfz235_6 := blk_frozen BK274.out 6; have hfz235_7 := blk_frozen BK274.out 7))
           go_ret
           exact ⟨by first | rfl | (simp [*] <;> rfl), by repeat (first | (with_reducible first | exact HB.out | apply below_alloc | apply pw_below_drewN | apply below_drew1 | refine below_set ?_ GE273.out | refine below_set ?_ GE274.out) | exact HB.out)⟩
          ·rw [if_neg c228] at H
           have c228b0 : (t263 != t271) = false := by simpa using c228
           (try (have c228b1 : decide (t263 = t271) = true := by simpa using c228))
           (try (have c228b2 : (t263 == t271) = true := by simpa using c228))
           clear c228
           by_cases c236 : ((decide (t279 < t280)) == (t275 == (-1))) = true
           ·rw [if_pos c236] at H
            have c236b0 : ((decide (t279 < t280)) == (t275 == (-1))) = true := c236
            (try (have c236b1 : decide ((decide (t279 < t280)) = (t275 == (-1))) = true := by simpa using c236))
            (try (have c236b2 : ((decide (t279 < t280)) == (t275 == (-1))) = true := by simpa using c236))
            clear c236
            obtain ⟨z1, z2⟩ : decide (t279 < t280) = false ∧ decide (t280 < t279) = false := by
             rcases Int.lt_trichotomy t279 t280 with zl | zl | zl
             ·have z1 : decide (t279 < t280) = true := decide_eq_true zl
              have z2 : decide (t280 < t279) = false := decide_eq_false (by omega)
              exfalso; have k0 := (Option.some.inj H).trans HRT.out; have k1 := c236b0; have k2 := c227b0; have k3 := c226b0; have k4 := c166b0; have k5 := c46b0; first | (simp [z1, z2] at k0 k1 k2 k3 k4 k5; done) | (simp [z1, z2] at k0 k1 k2 k3 k4 k5; omega)
             ·exact ⟨decide_eq_false (by omega), decide_eq_false (by omega)⟩
             ·have z1 : decide (t279 < t280) = false := decide_eq_false (by omega)
              have z2 : decide (t280 < t279) = true := decide_eq_true zl
              exfalso; have k0 := (Option.some.inj H).trans HRT.out; have k1 := c236b0; have k2 := c227b0; have k3 := c226b0; have k4 := c166b0; have k5 := c46b0; first | (simp [z1, z2] at k0 k1 k2 k3 k4 k5; done) | (simp [z1, z2] at k0 k1 k2 k3 k4 k5; omega)
            obtain rfl := Option.some.inj H
            have hnb237 := NB273_274.out
            have hnc237 := NB274_273.out
            have hcz238_0 : wc.cell? ⟨gb273, 0, none⟩ = some (.int .i64 t257) := (blk_cell BK273.out 0).trans rfl
            have hcz238_1 : wc.cell? ⟨gb273, 1, none⟩ = some (.int .i64 t258) := (blk_cell BK273.out 1).trans rfl
            have hcz238_2 : wc.cell? ⟨gb273, 2, none⟩ = some (.int .i64 t259) := (blk_cell BK273.out 2).trans rfl
            have hcz238_3 : wc.cell? ⟨gb273, 3, none⟩ = some (.int .i64 t260) := (blk_cell BK273.out 3).trans rfl
            have hcz238_4 : wc.cell? ⟨gb273, 4, none⟩ = some (.int .i64 t261) := (blk_cell BK273.out 4).trans rfl
            have hcz238_5 : wc.cell? ⟨gb273, 5, none⟩ = some (.int .i64 t262) := (blk_cell BK273.out 5).trans rfl
            have hcz238_6 : wc.cell? ⟨gb273, 6, none⟩ = some (.bool t263) := (blk_cell BK273.out 6).trans rfl
            have hcz238_7 : wc.cell? ⟨gb273, 7, none⟩ = some (.int .i64 t264) := (blk_cell BK273.out 7).trans rfl
            have hfz238_0 := blk_frozen BK273.out 0
            have hfz238_1 := blk_frozen BK273.out 1
            have hfz238_2 := blk_frozen BK273.out 2
            have hfz238_3 := blk_frozen BK273.out 3
            have hfz238_4 := blk_frozen BK273.out 4
            have hfz238_5 := blk_frozen BK273.out 5
            have hfz238_6 := blk_frozen BK273.out 6
            have hfz238_7 := blk_frozen BK273.out 7
            go_wp2_with (first | ((with_reducible refine gate_callee (f := 21) rfl ?_); refine goesL_ (some 42) rfl rfl Try.func21 (by kernel_rfl) rfl #[.agg #[.int .i64 t257, .int .i64 t258, .int .i64 t259, .int .i64 t260, .int .i64 t261, .int .i64 t262, .bool t263, .int .i64 t264]] rfl (by (try simp only [List.map_toArray, List.map_cons, List.map_nil]); first | done | rfl | (simp only [List.length_drop, List.length_take]; rfl)) ?_; (with_reducible refine (impl_SecondsOf.calls kj6 t257 t258 t259 t260 t261 t262 t263 t264 t279 _ A43.out).mono ?_); rintro e w239 ⟨rfl, hb⟩; refine ⟨_, rfl, ?_⟩; have n0_ := Aside0.mk (blk_below (g := gb273) (o := .cells #[.int .i64 t257, .int .i64 t258, .int .i64 t259, .int .i64 t260, .int .i64 t261, .int .i64 t262, .bool t263, .int .i64 t264] 29 (0, 0)) (by (with_reducible repeat (first | refine blk_drewN ?_ _ | refine blk_drew ?_ | refine blk_alloc ?_ _)); exact BK273.out) hb); have n1_ := Aside0.mk (blk_below (g := gb274) (o := .cells #[.int .i64 t265, .int .i64 t266, .int .i64 t267, .int .i64 t268, .int .i64 t269, .int .i64 t270, .bool t271, .int .i64 t272] 29 (0, 0)) (by (with_reducible repeat (first | refine blk_drewN ?_ _ | refine blk_drew ?_ | refine blk_alloc ?_ _)); exact BK274.out) hb); have n2_ := Aside0.mk (below_step (by repeat (first | (with_reducible first | exact HB.out | apply below_alloc | apply pw_below_drewN | apply below_drew1 | refine below_set ?_ GE273.out | refine below_set ?_ GE274.out) | exact HB.out)) hb); clear BK273; clear BK274; clear HB; have BK273 := n0_; have BK274 := n1_; have HB := n2_; clear n0_ n1_ n2_; (try clear hb); (try clear hb2); (try clear hk); (try clear hi); have hcz240_0 : w239.cell? ⟨gb274, 0, none⟩ = some (.int .i64 t265) := (blk_cell BK274.out 0).trans rfl; have hcz240_1 : w239.cell? ⟨gb274, 1, none⟩ = some (.int .i64 t266) := (blk_cell BK274.out 1).trans rfl; have hcz240_2 : w239.cell? ⟨gb274, 2, none⟩ = some (.int .i64 t267) := (blk_cell BK274.out 2).trans rfl; have hcz240_3 : w239.cell? ⟨gb274, 3, none⟩ = some (.int .i64 t268) := (blk_cell BK274.out 3).trans rfl; have hcz240_4 : w239.cell? ⟨gb274, 4, none⟩ = some (.int .i64 t269) := (blk_cell BK274.out 4).trans rfl; have hcz240_5 : w239.cell? ⟨gb274, 5, none⟩ = some (.int .i64 t270) := (blk_cell BK274.out 5).trans rfl; have hcz240_6 : w239.cell? ⟨gb274, 6, none⟩ = some (.bool t271) := (blk_cell BK274.out 6).trans rfl; have hcz240_7 : w239.cell? ⟨gb274, 7, none⟩ = some (.int .i64 t272) := (blk_cell BK274.out 7).trans rfl; have hfz240_0 := blk_frozen BK274.out 0; have hfz240_1 := blk_frozen BK274.out 1; have hfz240_2 := blk_frozen BK274.out 2; have hfz240_3 := blk_frozen BK274.out 3; have hfz240_4 := blk_frozen BK274.out 4; have hfz240_5 := blk_frozen BK274.out 5; have hfz240_6 := blk_frozen BK274.out 6; have hfz240_7 := blk_frozen BK274.out 7) | ((with_reducible refine gate_callee (f := 21) rfl ?_); refine goesL_ (some 44) rfl rfl Try.func21 (by kernel_rfl) rfl #[.agg #[.int .i64 t265, .int .i64 t266, .int .i64 t267, .int .i64 t268, .int .i64 t269, .int .i64 t270, .bool t271, .int .i64 t272]] rfl (by (try simp only [List.map_toArray, List.map_cons, List.map_nil]); first | done | rfl | (simp only [List.length_drop, List.length_take]; rfl)) ?_; (with_reducible refine (impl_SecondsOf.calls kj6 t265 t266 t267 t268 t269 t270 t271 t272 t280 _ A44.out).mono ?_); rintro e w241 ⟨rfl, hb⟩; refine ⟨_, rfl, ?_⟩; have n0_ := Aside0.mk (blk_below (g := gb273) (o := .cells #[.int .i64 t257, .int .i64 t258, .int .i64 t259, .int .i64 t260, .int .i64 t261, .int .i64 t262, .bool t263, .int .i64 t264] 29 (0, 0)) (by (with_reducible repeat (first | refine blk_drewN ?_ _ | refine blk_drew ?_ | refine blk_alloc ?_ _)); exact BK273.out) hb); have n1_ := Aside0.mk (blk_below (g := gb274) (o := .cells #[.int .i64 t265, .int .i64 t266, .int .i64 t267, .int .i64 t268, .int .i64 t269, .int .i64 t270, .bool t271, .int .i64 t272] 29 (0, 0)) (by (with_reducible repeat (first | refine blk_drewN ?_ _ | refine blk_drew ?_ | refine blk_alloc ?_ _)); exact BK274.out) hb); have n2_ := Aside0.mk (below_step (by repeat (first | (with_reducible first | exact HB.out | apply below_alloc | apply pw_below_drewN | apply below_drew1 | refine below_set ?_ GE273.out | refine below_set ?_ GE274.out) | exact HB.out)) hb); clear BK273; clear BK274; clear HB; have BK273 := n0_; have BK274 := n1_; have HB := n2_; clear n0_ n1_ n2_; (try clear hb); (try clear hb2); (try clear hk); (try clear hi); have hcz242_0 : w241.cell? ⟨gb273, 0, none⟩ = some (.int .i64 t257) := (blk_cell BK273.out 0).trans rfl; have hcz242_1 : w241.cell? ⟨gb273, 1, none⟩ = some (.int .i64 t258) := (blk_cell BK273.out 1).trans rfl; have hcz242_2 : w241.cell? ⟨gb273, 2, none⟩ = some (.int .i64 t259) := (blk_cell BK273.out 2).trans rfl; have hcz242_3 : w241.cell? ⟨gb273, 3, none⟩ = some (.int .i64 t260) := (blk_cell BK273.out 3).trans rfl; have hcz242_4 : w241.cell? ⟨gb273, 4, none⟩ = some (.int .i64 t261) := (blk_cell BK273.out 4).trans rfl; have hcz242_5 : w241.cell? ⟨gb273, 5, none⟩ = some (.int .i64 t262) := (blk_cell BK273.out 5).trans rfl; have hcz242_6 : w241.cell? ⟨gb273, 6, none⟩ = some (.bool t263) := (blk_cell BK273.out 6).trans rfl; have hcz242_7 : w241.cell? ⟨gb273, 7, none⟩ = some (.int .i64 t264) := (blk_cell BK273.out 7).trans rfl; have hfz242_0 := blk_frozen BK273.out 0; have hfz242_1 := blk_frozen BK273.out 1; have hfz242_2 := blk_frozen BK273.out 2; have hfz242_3 := blk_frozen BK273.out 3; have hfz242_4 := blk_frozen BK273.out 4; have hfz242_5 := blk_frozen BK273.out 5; have hfz242_6 := blk_frozen BK273.out 6; have hfz242_7 := blk_frozen BK273.out 7; have hcz243_0 : w241.cell? ⟨gb274, 0, none⟩ = some (.int .i64 t265) := (blk_cell BK274.out 0).trans rfl; have hcz243_1 : w241.cell? ⟨gb274, 1, none⟩ = some (.int .i64 t266) := (blk_cell BK274.out 1).trans rfl; have hcz243_2 : w241.cell? ⟨gb274, 2, none⟩ = some (.int .i64 t267) := (blk_cell BK274.out 2).trans rfl; have hcz243_3 : w241.cell? ⟨gb274, 3, none⟩ = some (.int .i64 t268) := (blk_cell BK274.out 3).trans rfl; have hcz243_4 : w241.cell? ⟨gb274, 4, none⟩ = some (.int .i64 t269) := (blk_cell BK274.out 4).trans rfl; have hcz243_5 : w241.cell? ⟨gb274, 5, none⟩ = some (.int .i64 t270) := (blk_cell BK274.out 5).trans rfl; have hcz243_6 : w241.cell? ⟨gb274, 6, none⟩ = some (.bool t271) := (blk_cell BK274.out 6).trans rfl; have hcz243_7 : w241.cell? ⟨gb274, 7, none⟩ = some (.int .i64 t272) := (blk_cell BK274.out 7).trans rfl; have hfz243_0 := blk_frozen BK274.out 0; have hfz243_1 := blk_frozen BK274.out 1; have hfz243_2 := blk_frozen BK274.out 2; have hfz243_3 := blk_frozen BK274.out 3; have hfz243_4 := blk_frozen BK274.out 4; have hfz243_5 := blk_frozen BK274.out 5; have hfz243_6 := blk_frozen BK274.out 6; have hfz243_7 := blk_frozen BK274.out 7))
            go_ret
            exact ⟨by first | rfl | (simp [*] <;> rfl), by repeat (first | (with_reducible first | exact HB.out | apply below_alloc | apply pw_below_drewN | apply below_drew1 | refine below_set ?_ GE273.out | refine below_set ?_ GE274.out) | exact HB.out)⟩
           ·rw [if_neg c236] at H
            have c236b0 : ((decide (t279 < t280)) == (t275 == (-1))) = false := by simpa using c236
            (try (have c236b1 : decide ((decide (t279 < t280)) = (t275 == (-1))) = false := by simpa using c236))
            (try (have c236b2 : ((decide (t279 < t280)) == (t275 == (-1))) = false := by simpa using c236))
            (try (have c236b3 : ¬ ((decide (t279 < t280)) = (t275 == (-1))) := by simpa using c236))
            clear c236
            exact absurd ((Option.some.inj H).trans HRT.out) (by decide)
         ·rw [if_neg c227] at H
          have c227b0 : (t279 == t280) = false := beq_eq_false_iff_ne.mpr c227
          have c227b1 : (t279 != t280) = true := bne_iff_ne.mpr c227
          exact absurd ((Option.some.inj H).trans HRT.out) (by decide)
        ·rw [if_neg c226] at H
         have c226b0 : (t275 == 0) = false := beq_eq_false_iff_ne.mpr c226
         have c226b1 : (t275 != 0) = true := bne_iff_ne.mpr c226
         by_cases c256 : (t263 != t271) = true
         ·rw [if_pos c256] at H
          have c256b0 : (t263 != t271) = true := c256
          (try (have c256b1 : decide (t263 = t271) = false := by simpa using c256))
          (try (have c256b2 : (t263 == t271) = false := by simpa using c256))
          (try (have c256b3 : ¬ (t263 = t271) := by simpa using c256))
          clear c256
          obtain rfl := Option.some.inj H
          have hnb257 := NB273_274.out
          have hnc257 := NB274_273.out
          have hcz258_0 : wc.cell? ⟨gb273, 0, none⟩ = some (.int .i64 t257) := (blk_cell BK273.out 0).trans rfl
          have hcz258_1 : wc.cell? ⟨gb273, 1, none⟩ = some (.int .i64 t258) := (blk_cell BK273.out 1).trans rfl
          have hcz258_2 : wc.cell? ⟨gb273, 2, none⟩ = some (.int .i64 t259) := (blk_cell BK273.out 2).trans rfl
          have hcz258_3 : wc.cell? ⟨gb273, 3, none⟩ = some (.int .i64 t260) := (blk_cell BK273.out 3).trans rfl
          have hcz258_4 : wc.cell? ⟨gb273, 4, none⟩ = some (.int .i64 t261) := (blk_cell BK273.out 4).trans rfl
          have hcz258_5 : wc.cell? ⟨gb273, 5, none⟩ = some (.int .i64 t262) := (blk_cell BK273.out 5).trans rfl
          have hcz258_6 : wc.cell? ⟨gb273, 6, none⟩ = some (.bool t263) := (blk_cell BK273.out 6).trans rfl
          have hcz258_7 : wc.cell? ⟨gb273, 7, none⟩ = some (.int .i64 t264) := (blk_cell BK273.out 7).trans rfl
          have hfz258_0 := blk_frozen BK273.out 0
          have hfz258_1 := blk_frozen BK273.out 1
          have hfz258_2 := blk_frozen BK273.out 2
          have hfz258_3 := blk_frozen BK273.out 3
          have hfz258_4 := blk_frozen BK273.out 4
          have hfz258_5 := blk_frozen BK273.out 5
          have hfz258_6 := blk_frozen BK273.out 6
          have hfz258_7 := blk_frozen BK273.out 7
          go_wp2_with (first | ((with_reducible refine gate_callee (f := 21) rfl ?_); refine goesL_ (some 42) rfl rfl Try.func21 (by kernel_rfl) rfl #[.agg #[.int .i64 t257, .int .i64 t258, .int .i64 t259, .int .i64 t260, .int .i64 t261, .int .i64 t262, .bool t263, .int .i64 t264]] rfl (by (try simp only [List.map_toArray, List.map_cons, List.map_nil]); first | done | rfl | (simp only [List.length_drop, List.length_take]; rfl)) ?_; (with_reducible refine (impl_SecondsOf.calls kj6 t257 t258 t259 t260 t261 t262 t263 t264 t279 _ A43.out).mono ?_); rintro e w259 ⟨rfl, hb⟩; refine ⟨_, rfl, ?_⟩; have n0_ := Aside0.mk (blk_below (g := gb273) (o := .cells #[.int .i64 t257, .int .i64 t258, .int .i64 t259, .int .i64 t260, .int .i64 t261, .int .i64 t262, .bool t263, .int .i64 t264] 29 (0, 0)) (by (with_reducible repeat (first | refine blk_drewN ?_ _ | refine blk_drew ?_ | refine blk_alloc ?_ _)); exact BK273.out) hb); have n1_ := Aside0.mk (blk_below (g := gb274) (o := .cells #[.int .i64 t265, .int .i64 t266, .int .i64 t267, .int .i64 t268, .int .i64 t269, .int .i64 t270, .bool t271, .int .i64 t272] 29 (0, 0)) (by (with_reducible repeat (first | refine blk_drewN ?_ _ | refine blk_drew ?_ | refine blk_alloc ?_ _)); exact BK274.out) hb); have n2_ := Aside0.mk (below_step (by repeat (first | (with_reducible first | exact HB.out | apply below_alloc | apply pw_below_drewN | apply below_drew1 | refine below_set ?_ GE273.out | refine below_set ?_ GE274.out) | exact HB.out)) hb); clear BK273; clear BK274; clear HB; have BK273 := n0_; have BK274 := n1_; have HB := n2_; clear n0_ n1_ n2_; (try clear hb); (try clear hb2); (try clear hk); (try clear hi); have hcz260_0 : w259.cell? ⟨gb274, 0, none⟩ = some (.int .i64 t265) := (blk_cell BK274.out 0).trans rfl; have hcz260_1 : w259.cell? ⟨gb274, 1, none⟩ = some (.int .i64 t266) := (blk_cell BK274.out 1).trans rfl; have hcz260_2 : w259.cell? ⟨gb274, 2, none⟩ = some (.int .i64 t267) := (blk_cell BK274.out 2).trans rfl; have hcz260_3 : w259.cell? ⟨gb274, 3, none⟩ = some (.int .i64 t268) := (blk_cell BK274.out 3).trans rfl; have hcz260_4 : w259.cell? ⟨gb274, 4, none⟩ = some (.int .i64 t269) := (blk_cell BK274.out 4).trans rfl; have hcz260_5 : w259.cell? ⟨gb274, 5, none⟩ = some (.int .i64 t270) := (blk_cell BK274.out 5).trans rfl; have hcz260_6 : w259.cell? ⟨gb274, 6, none⟩ = some (.bool t271) := (blk_cell BK274.out 6).trans rfl; have hcz260_7 : w259.cell? ⟨gb274, 7, none⟩ = some (.int .i64 t272) := (blk_cell BK274.out 7).trans rfl; have hfz260_0 := blk_frozen BK274.out 0; have hfz260_1 := blk_frozen BK274.out 1; have hfz260_2 := blk_frozen BK274.out 2; have hfz260_3 := blk_frozen BK274.out 3; have hfz260_4 := blk_frozen BK274.out 4; have hfz260_5 := blk_frozen BK274.out 5; have hfz260_6 := blk_frozen BK274.out 6; have hfz260_7 := blk_frozen BK274.out 7) | ((with_reducible refine gate_callee (f := 21) rfl ?_); refine goesL_ (some 44) rfl rfl Try.func21 (by kernel_rfl) rfl #[.agg #[.int .i64 t265, .int .i64 t266, .int .i64 t267, .int .i64 t268, .int .i64 t269, .int .i64 t270, .bool t271, .int .i64 t272]] rfl (by (try simp only [List.map_toArray, List.map_cons, List.map_nil]); first | done | rfl | (simp only [List.length_drop, List.length_take]; rfl)) ?_; (with_reducible refine (impl_SecondsOf.calls kj6 t265 t266 t267 t268 t269 t270 t271 t272 t280 _ A44.out).mono ?_); rintro e w261 ⟨rfl, hb⟩; refine ⟨_, rfl, ?_⟩; have n0_ := Aside0.mk (blk_below (g := gb273) (o := .cells #[.int .i64 t257, .int .i64 t258, .int .i64 t259, .int .i64 t260, .int .i64 t261, .int .i64 t262, .bool t263, .int .i64 t264] 29 (0, 0)) (by (with_reducible repeat (first | refine blk_drewN ?_ _ | refine blk_drew ?_ | refine blk_alloc ?_ _)); exact BK273.out) hb); have n1_ := Aside0.mk (blk_below (g := gb274) (o := .cells #[.int .i64 t265, .int .i64 t266, .int .i64 t267, .int .i64 t268, .int .i64 t269, .int .i64 t270, .bool t271, .int .i64 t272] 29 (0, 0)) (by (with_reducible repeat (first | refine blk_drewN ?_ _ | refine blk_drew ?_ | refine blk_alloc ?_ _)); exact BK274.out) hb); have n2_ := Aside0.mk (below_step (by repeat (first | (with_reducible first | exact HB.out | apply below_alloc | apply pw_below_drewN | apply below_drew1 | refine below_set ?_ GE273.out | refine below_set ?_ GE274.out) | exact HB.out)) hb); clear BK273; clear BK274; clear HB; have BK273 := n0_; have BK274 := n1_; have HB := n2_; clear n0_ n1_ n2_; (try clear hb); (try clear hb2); (try clear hk); (try clear hi); have hcz262_0 : w261.cell? ⟨gb273, 0, none⟩ = some (.int .i64 t257) := (blk_cell BK273.out 0).trans rfl; have hcz262_1 : w261.cell? ⟨gb273, 1, none⟩ = some (.int .i64 t258) := (blk_cell BK273.out 1).trans rfl; have hcz262_2 : w261.cell? ⟨gb273, 2, none⟩ = some (.int .i64 t259) := (blk_cell BK273.out 2).trans rfl; have hcz262_3 : w261.cell? ⟨gb273, 3, none⟩ = some (.int .i64 t260) := (blk_cell BK273.out 3).trans rfl; have hcz262_4 : w261.cell? ⟨gb273, 4, none⟩ = some (.int .i64 t261) := (blk_cell BK273.out 4).trans rfl; have hcz262_5 : w261.cell? ⟨gb273, 5, none⟩ = some (.int .i64 t262) := (blk_cell BK273.out 5).trans rfl; have hcz262_6 : w261.cell? ⟨gb273, 6, none⟩ = some (.bool t263) := (blk_cell BK273.out 6).trans rfl; have hcz262_7 : w261.cell? ⟨gb273, 7, none⟩ = some (.int .i64 t264) := (blk_cell BK273.out 7).trans rfl; have hfz262_0 := blk_frozen BK273.out 0; have hfz262_1 := blk_frozen BK273.out 1; have hfz262_2 := blk_frozen BK273.out 2; have hfz262_3 := blk_frozen BK273.out 3; have hfz262_4 := blk_frozen BK273.out 4; have hfz262_5 := blk_frozen BK273.out 5; have hfz262_6 := blk_frozen BK273.out 6; have hfz262_7 := blk_frozen BK273.out 7; have hcz263_0 : w261.cell? ⟨gb274, 0, none⟩ = some (.int .i64 t265) := (blk_cell BK274.out 0).trans rfl; have hcz263_1 : w261.cell? ⟨gb274, 1, none⟩ = some (.int .i64 t266) := (blk_cell BK274.out 1).trans rfl; have hcz263_2 : w261.cell? ⟨gb274, 2, none⟩ = some (.int .i64 t267) := (blk_cell BK274.out 2).trans rfl; have hcz263_3 : w261.cell? ⟨gb274, 3, none⟩ = some (.int .i64 t268) := (blk_cell BK274.out 3).trans rfl; have hcz263_4 : w261.cell? ⟨gb274, 4, none⟩ = some (.int .i64 t269) := (blk_cell BK274.out 4).trans rfl; have hcz263_5 : w261.cell? ⟨gb274, 5, none⟩ = some (.int .i64 t270) := (blk_cell BK274.out 5).trans rfl; have hcz263_6 : w261.cell? ⟨gb274, 6, none⟩ = some (.bool t271) := (blk_cell BK274.out 6).trans rfl; have hcz263_7 : w261.cell? ⟨gb274, 7, none⟩ = some (.int .i64 t272) := (blk_cell BK274.out 7).trans rfl; have hfz263_0 := blk_frozen BK274.out 0; have hfz263_1 := blk_frozen BK274.out 1; have hfz263_2 := blk_frozen BK274.out 2; have hfz263_3 := blk_frozen BK274.out 3; have hfz263_4 := blk_frozen BK274.out 4; have hfz263_5 := blk_frozen BK274.out 5; have hfz263_6 := blk_frozen BK274.out 6; have hfz263_7 := blk_frozen BK274.out 7))
          go_ret
          exact ⟨by first | rfl | (simp [*] <;> rfl), by repeat (first | (with_reducible first | exact HB.out | apply below_alloc | apply pw_below_drewN | apply below_drew1 | refine below_set ?_ GE273.out | refine below_set ?_ GE274.out) | exact HB.out)⟩
         ·rw [if_neg c256] at H
          have c256b0 : (t263 != t271) = false := by simpa using c256
          (try (have c256b1 : decide (t263 = t271) = true := by simpa using c256))
          (try (have c256b2 : (t263 == t271) = true := by simpa using c256))
          clear c256
          by_cases c264 : ((decide (t279 < t280)) == (t275 == (-1))) = true
          ·rw [if_pos c264] at H
           have c264b0 : ((decide (t279 < t280)) == (t275 == (-1))) = true := c264
           (try (have c264b1 : decide ((decide (t279 < t280)) = (t275 == (-1))) = true := by simpa using c264))
           (try (have c264b2 : ((decide (t279 < t280)) == (t275 == (-1))) = true := by simpa using c264))
           clear c264
           obtain ⟨z1, z2⟩ : decide (t279 < t280) = false ∧ decide (t280 < t279) = false := by
            rcases Int.lt_trichotomy t279 t280 with zl | zl | zl
            ·have z1 : decide (t279 < t280) = true := decide_eq_true zl
             have z2 : decide (t280 < t279) = false := decide_eq_false (by omega)
             exfalso; have k0 := (Option.some.inj H).trans HRT.out; have k1 := c264b0; have k2 := c226b0; have k3 := c166b0; have k4 := c46b0; first | (simp [z1, z2] at k0 k1 k2 k3 k4; done) | (simp [z1, z2] at k0 k1 k2 k3 k4; omega)
            ·exact ⟨decide_eq_false (by omega), decide_eq_false (by omega)⟩
            ·have z1 : decide (t279 < t280) = false := decide_eq_false (by omega)
             have z2 : decide (t280 < t279) = true := decide_eq_true zl
             exfalso; have k0 := (Option.some.inj H).trans HRT.out; have k1 := c264b0; have k2 := c226b0; have k3 := c166b0; have k4 := c46b0; first | (simp [z1, z2] at k0 k1 k2 k3 k4; done) | (simp [z1, z2] at k0 k1 k2 k3 k4; omega)
           obtain rfl := Option.some.inj H
           have hnb265 := NB273_274.out
           have hnc265 := NB274_273.out
           have hcz266_0 : wc.cell? ⟨gb273, 0, none⟩ = some (.int .i64 t257) := (blk_cell BK273.out 0).trans rfl
           have hcz266_1 : wc.cell? ⟨gb273, 1, none⟩ = some (.int .i64 t258) := (blk_cell BK273.out 1).trans rfl
           have hcz266_2 : wc.cell? ⟨gb273, 2, none⟩ = some (.int .i64 t259) := (blk_cell BK273.out 2).trans rfl
           have hcz266_3 : wc.cell? ⟨gb273, 3, none⟩ = some (.int .i64 t260) := (blk_cell BK273.out 3).trans rfl
           have hcz266_4 : wc.cell? ⟨gb273, 4, none⟩ = some (.int .i64 t261) := (blk_cell BK273.out 4).trans rfl
           have hcz266_5 : wc.cell? ⟨gb273, 5, none⟩ = some (.int .i64 t262) := (blk_cell BK273.out 5).trans rfl
           have hcz266_6 : wc.cell? ⟨gb273, 6, none⟩ = some (.bool t263) := (blk_cell BK273.out 6).trans rfl
           have hcz266_7 : wc.cell? ⟨gb273, 7, none⟩ = some (.int .i64 t264) := (blk_cell BK273.out 7).trans rfl
           have hfz266_0 := blk_frozen BK273.out 0
           have hfz266_1 := blk_frozen BK273.out 1
           have hfz266_2 := blk_frozen BK273.out 2
           have hfz266_3 := blk_frozen BK273.out 3
           have hfz266_4 := blk_frozen BK273.out 4
           have hfz266_5 := blk_frozen BK273.out 5
           have hfz266_6 := blk_frozen BK273.out 6
           have hfz266_7 := blk_frozen BK273.out 7
           go_wp2_with (first | ((with_reducible refine gate_callee (f := 21) rfl ?_); refine goesL_ (some 42) rfl rfl Try.func21 (by kernel_rfl) rfl #[.agg #[.int .i64 t257, .int .i64 t258, .int .i64 t259, .int .i64 t260, .int .i64 t261, .int .i64 t262, .bool t263, .int .i64 t264]] rfl (by (try simp only [List.map_toArray, List.map_cons, List.map_nil]); first | done | rfl | (simp only [List.length_drop, List.length_take]; rfl)) ?_; (with_reducible refine (impl_SecondsOf.calls kj6 t257 t258 t259 t260 t261 t262 t263 t264 t279 _ A43.out).mono ?_); rintro e w267 ⟨rfl, hb⟩; refine ⟨_, rfl, ?_⟩; have n0_ := Aside0.mk (blk_below (g := gb273) (o := .cells #[.int .i64 t257, .int .i64 t258, .int .i64 t259, .int .i64 t260, .int .i64 t261, .int .i64 t262, .bool t263, .int .i64 t264] 29 (0, 0)) (by (with_reducible repeat (first | refine blk_drewN ?_ _ | refine blk_drew ?_ | refine blk_alloc ?_ _)); exact BK273.out) hb); have n1_ := Aside0.mk (blk_below (g := gb274) (o := .cells #[.int .i64 t265, .int .i64 t266, .int .i64 t267, .int .i64 t268, .int .i64 t269, .int .i64 t270, .bool t271, .int .i64 t272] 29 (0, 0)) (by (with_reducible repeat (first | refine blk_drewN ?_ _ | refine blk_drew ?_ | refine blk_alloc ?_ _)); exact BK274.out) hb); have n2_ := Aside0.mk (below_step (by repeat (first | (with_reducible first | exact HB.out | apply below_alloc | apply pw_below_drewN | apply below_drew1 | refine below_set ?_ GE273.out | refine below_set ?_ GE274.out) | exact HB.out)) hb); clear BK273; clear BK274; clear HB; have BK273 := n0_; have BK274 := n1_; have HB := n2_; clear n0_ n1_ n2_; (try clear hb); (try clear hb2); (try clear hk); (try clear hi); have hcz268_0 : w267.cell? ⟨gb274, 0, none⟩ = some (.int .i64 t265) := (blk_cell BK274.out 0).trans rfl; have hcz268_1 : w267.cell? ⟨gb274, 1, none⟩ = some (.int .i64 t266) := (blk_cell BK274.out 1).trans rfl; have hcz268_2 : w267.cell? ⟨gb274, 2, none⟩ = some (.int .i64 t267) := (blk_cell BK274.out 2).trans rfl; have hcz268_3 : w267.cell? ⟨gb274, 3, none⟩ = some (.int .i64 t268) := (blk_cell BK274.out 3).trans rfl; have hcz268_4 : w267.cell? ⟨gb274, 4, none⟩ = some (.int .i64 t269) := (blk_cell BK274.out 4).trans rfl; have hcz268_5 : w267.cell? ⟨gb274, 5, none⟩ = some (.int .i64 t270) := (blk_cell BK274.out 5).trans rfl; have hcz268_6 : w267.cell? ⟨gb274, 6, none⟩ = some (.bool t271) := (blk_cell BK274.out 6).trans rfl; have hcz268_7 : w267.cell? ⟨gb274, 7, none⟩ = some (.int .i64 t272) := (blk_cell BK274.out 7).trans rfl; have hfz268_0 := blk_frozen BK274.out 0; have hfz268_1 := blk_frozen BK274.out 1; have hfz268_2 := blk_frozen BK274.out 2; have hfz268_3 := blk_frozen BK274.out 3; have hfz268_4 := blk_frozen BK274.out 4; have hfz268_5 := blk_frozen BK274.out 5; have hfz268_6 := blk_frozen BK274.out 6; have hfz268_7 := blk_frozen BK274.out 7) | ((with_reducible refine gate_callee (f := 21) rfl ?_); refine goesL_ (some 44) rfl rfl Try.func21 (by kernel_rfl) rfl #[.agg #[.int .i64 t265, .int .i64 t266, .int .i64 t267, .int .i64 t268, .int .i64 t269, .int .i64 t270, .bool t271, .int .i64 t272]] rfl (by (try simp only [List.map_toArray, List.map_cons, List.map_nil]); first | done | rfl | (simp only [List.length_drop, List.length_take]; rfl)) ?_; (with_reducible refine (impl_SecondsOf.calls kj6 t265 t266 t267 t268 t269 t270 t271 t272 t280 _ A44.out).mono ?_); rintro e w269 ⟨rfl, hb⟩; refine ⟨_, rfl, ?_⟩; have n0_ := Aside0.mk (blk_below (g := gb273) (o := .cells #[.int .i64 t257, .int .i64 t258, .int .i64 t259, .int .i64 t260, .int .i64 t261, .int .i64 t262, .bool t263, .int .i64 t264] 29 (0, 0)) (by (with_reducible repeat (first | refine blk_drewN ?_ _ | refine blk_drew ?_ | refine blk_alloc ?_ _)); exact BK273.out) hb); have n1_ := Aside0.mk (blk_below (g := gb274) (o := .cells #[.int .i64 t265, .int .i64 t266, .int .i64 t267, .int .i64 t268, .int .i64 t269, .int .i64 t270, .bool t271, .int .i64 t272] 29 (0, 0)) (by (with_reducible repeat (first | refine blk_drewN ?_ _ | refine blk_drew ?_ | refine blk_alloc ?_ _)); exact BK274.out) hb); have n2_ := Aside0.mk (below_step (by repeat (first | (with_reducible first | exact HB.out | apply below_alloc | apply pw_below_drewN | apply below_drew1 | refine below_set ?_ GE273.out | refine below_set ?_ GE274.out) | exact HB.out)) hb); clear BK273; clear BK274; clear HB; have BK273 := n0_; have BK274 := n1_; have HB := n2_; clear n0_ n1_ n2_; (try clear hb); (try clear hb2); (try clear hk); (try clear hi); have hcz270_0 : w269.cell? ⟨gb273, 0, none⟩ = some (.int .i64 t257) := (blk_cell BK273.out 0).trans rfl; have hcz270_1 : w269.cell? ⟨gb273, 1, none⟩ = some (.int .i64 t258) := (blk_cell BK273.out 1).trans rfl; have hcz270_2 : w269.cell? ⟨gb273, 2, none⟩ = some (.int .i64 t259) := (blk_cell BK273.out 2).trans rfl; have hcz270_3 : w269.cell? ⟨gb273, 3, none⟩ = some (.int .i64 t260) := (blk_cell BK273.out 3).trans rfl; have hcz270_4 : w269.cell? ⟨gb273, 4, none⟩ = some (.int .i64 t261) := (blk_cell BK273.out 4).trans rfl; have hcz270_5 : w269.cell? ⟨gb273, 5, none⟩ = some (.int .i64 t262) := (blk_cell BK273.out 5).trans rfl; have hcz270_6 : w269.cell? ⟨gb273, 6, none⟩ = some (.bool t263) := (blk_cell BK273.out 6).trans rfl; have hcz270_7 : w269.cell? ⟨gb273, 7, none⟩ = some (.int .i64 t264) := (blk_cell BK273.out 7).trans rfl; have hfz270_0 := blk_frozen BK273.out 0; have hfz270_1 := blk_frozen BK273.out 1; have hfz270_2 := blk_frozen BK273.out 2; have hfz270_3 := blk_frozen BK273.out 3; have hfz270_4 := blk_frozen BK273.out 4; have hfz270_5 := blk_frozen BK273.out 5; have hfz270_6 := blk_frozen BK273.out 6; have hfz270_7 := blk_frozen BK273.out 7; have hcz271_0 : w269.cell? ⟨gb274, 0, none⟩ = some (.int .i64 t265) := (blk_cell BK274.out 0).trans rfl; have hcz271_1 : w269.cell? ⟨gb274, 1, none⟩ = some (.int .i64 t266) := (blk_cell BK274.out 1).trans rfl; have hcz271_2 : w269.cell? ⟨gb274, 2, none⟩ = some (.int .i64 t267) := (blk_cell BK274.out 2).trans rfl; have hcz271_3 : w269.cell? ⟨gb274, 3, none⟩ = some (.int .i64 t268) := (blk_cell BK274.out 3).trans rfl; have hcz271_4 : w269.cell? ⟨gb274, 4, none⟩ = some (.int .i64 t269) := (blk_cell BK274.out 4).trans rfl; have hcz271_5 : w269.cell? ⟨gb274, 5, none⟩ = some (.int .i64 t270) := (blk_cell BK274.out 5).trans rfl; have hcz271_6 : w269.cell? ⟨gb274, 6, none⟩ = some (.bool t271) := (blk_cell BK274.out 6).trans rfl; have hcz271_7 : w269.cell? ⟨gb274, 7, none⟩ = some (.int .i64 t272) := (blk_cell BK274.out 7).trans rfl; have hfz271_0 := blk_frozen BK274.out 0; have hfz271_1 := blk_frozen BK274.out 1; have hfz271_2 := blk_frozen BK274.out 2; have hfz271_3 := blk_frozen BK274.out 3; have hfz271_4 := blk_frozen BK274.out 4; have hfz271_5 := blk_frozen BK274.out 5; have hfz271_6 := blk_frozen BK274.out 6; have hfz271_7 := blk_frozen BK274.out 7))
           go_ret
           exact ⟨by first | rfl | (simp [*] <;> rfl), by repeat (first | (with_reducible first | exact HB.out | apply below_alloc | apply pw_below_drewN | apply below_drew1 | refine below_set ?_ GE273.out | refine below_set ?_ GE274.out) | exact HB.out)⟩
          ·rw [if_neg c264] at H
           have c264b0 : ((decide (t279 < t280)) == (t275 == (-1))) = false := by simpa using c264
           (try (have c264b1 : decide ((decide (t279 < t280)) = (t275 == (-1))) = false := by simpa using c264))
           (try (have c264b2 : ((decide (t279 < t280)) == (t275 == (-1))) = false := by simpa using c264))
           (try (have c264b3 : ¬ ((decide (t279 < t280)) = (t275 == (-1))) := by simpa using c264))
           clear c264
           exact absurd ((Option.some.inj H).trans HRT.out) (by decide)
     ·rw [if_neg c45] at H
      have c45b0 : (t276 == (wrap64 (-t275))) = false := beq_eq_false_iff_ne.mpr c45
      have c45b1 : (t276 != (wrap64 (-t275))) = true := bne_iff_ne.mpr c45
      exact absurd ((Option.some.inj H).trans HRT.out) (by decide)
/-- THE ONE PURE STATEMENT of laws_FnDateOrder: yours. -/
def laws_FnDateOrder.Pure : Prop := ∀ (l0 : List Int), l0.length ≤ maxLen → l0.length * 1 ≤ 140737488351232 → (∀ x ∈ l0, (Lit.int .u8 x).wf = true) → ∃ k, laws_FnDateOrder.f k l0 = some true
theorem laws_FnDateOrder.walk (P : laws_FnDateOrder.Pure) (a0 : Option Addr) (len0 cap0 : Nat) (z0 : List Int) (w : World) (w0 : (a0 = none ∧ len0 = 0 ∧ cap0 = 0 ∧ z0 = []) ∨ ∃ x, a0 = some x ∧ len0 ≤ cap0 ∧ cap0 ≤ maxLen ∧ z0.length = cap0 ∧ (∀ i, i < z0.length → w.cell? (x.add i) = some (.int .u8 (z0.getD i 0))) ∧ ∀ n ∈ z0, (Lit.int .u8 n).wf = true) (y0 : len0 * 1 ≤ 140737488351232) :
  Calls Try.prog 11 #[.slice a0 len0 cap0] w fun e w' => e = .returned (.bool true) ∧ Below w.heap.size w w' := by
 obtain ⟨l0, rfl, hr0, hm0, hw0, hc0⟩ := ReadsInt.ofRowC w0
 obtain ⟨k, h⟩ := P l0 hm0 y0 hw0
 refine (laws_FnDateOrder.calls k _ _ l0 true w (Kd.C_of_reads (d := (0 : Int)) (h1 := fun _ => rfl) hr0) hc0 h).mono ?_
 rintro e w' ⟨rfl, hd⟩
 exact ⟨rfl, hd⟩

end Go.Proofs.Ytdfopjmokbcnlaa.PV
