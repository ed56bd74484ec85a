-- Printed by this session's pdrive.py over the kit's printer.
import Derived.Test.YtdfopjmokbcnlaaPFx0
import Derived.Test.YtdfopjmokbcnlaaPFx1
import Derived.Test.YtdfopjmokbcnlaaPFx2
import Derived.Test.YtdfopjmokbcnlaaPFx3
import Derived.Test.YtdfopjmokbcnlaaPFx5
import Derived.Test.YtdfopjmokbcnlaaPFx6
import Derived.Test.YtdfopjmokbcnlaaPFx9
namespace Go.Proofs.Ytdfopjmokbcnlaa.PF
open Go.RowKit Go.Proofs.YtdfopjmokbcnlaaW.PrintWords Go.Proofs.YtdfopjmokbcnlaaW.PrintLast Go.Proofs.YtdfopjmokbcnlaaW.PrintMore Go.Proofs.YtdfopjmokbcnlaaW.WordsB
attribute [local go_sem] max2_int min2_int max_two min_two max_three min_three max_four min_four   -- for this text's walks alone
set_option linter.unusedVariables false
set_option linter.unusedSimpArgs false

attribute [local go_sem high] eqA29
theorem zq10_put8 {w : World} {g : Nat} {t : TypeId} {cs : Array Value} {a0 a1 a2 a3 a4 a5 a6 a7 v0 v1 v2 v3 v4 v5 v6 v7 : Value} (h : w.heap[g]? = some (.cells cs t)) (hs : cs = #[a0, a1, a2, a3, a4, a5, a6, a7]) : ((((((((w.setCell ⟨g, 0, none⟩ v0).setCell ⟨g, 1, none⟩ v1).setCell ⟨g, 2, none⟩ v2).setCell ⟨g, 3, none⟩ v3).setCell ⟨g, 4, none⟩ v4).setCell ⟨g, 5, none⟩ v5).setCell ⟨g, 6, none⟩ v6).setCell ⟨g, 7, none⟩ v7).heap[g]? = some (.cells #[v0, v1, v2, v3, v4, v5, v6, v7] t) := by
  subst hs
  have h1 := blk_put (cs' := #[v0, a1, a2, a3, a4, a5, a6, a7]) h 0 v0 rfl
  have h2 := blk_put (cs' := #[v0, v1, a2, a3, a4, a5, a6, a7]) h1 1 v1 rfl
  have h3 := blk_put (cs' := #[v0, v1, v2, a3, a4, a5, a6, a7]) h2 2 v2 rfl
  have h4 := blk_put (cs' := #[v0, v1, v2, v3, a4, a5, a6, a7]) h3 3 v3 rfl
  have h5 := blk_put (cs' := #[v0, v1, v2, v3, v4, a5, a6, a7]) h4 4 v4 rfl
  have h6 := blk_put (cs' := #[v0, v1, v2, v3, v4, v5, a6, a7]) h5 5 v5 rfl
  have h7 := blk_put (cs' := #[v0, v1, v2, v3, v4, v5, v6, a7]) h6 6 v6 rfl
  have h8 := blk_put (cs' := #[v0, v1, v2, v3, v4, v5, v6, v7]) h7 7 v7 rfl
  exact h8
theorem zq10_s1 {α : Type _} (l : List α) (i : Nat) (a : α) : l.toArray.setIfInBounds i a = (l.set i a).toArray := List.setIfInBounds_toArray l i a
theorem zq10_s2 {α : Type _} {x : α} {xs : List α} {a : α} : (x :: xs).set 0 a = a :: xs := rfl
theorem zq10_s3 {α : Type _} {x : α} {xs : List α} {i : Nat} {a : α} : (x :: xs).set (i + 1) a = x :: xs.set i a := rfl
@[reducible] def zq10_m0 : Array Bool := #[false, false, false, false, false, false, false, false, false, false, false, false, false, false, false, false, false, false, false, false, false, false, false, false, false, false, false, false, false, false]
@[reducible] def zq10_m1 : Array Bool := #[true, false, false, false, false, false, false, false, false, false, false, false, false, false, false, false, false, false, false, false, false, false, false, false, false, false, false, false, false, false]
@[reducible] def zq10_m2 : Array Bool := #[true, true, false, false, false, false, false, false, false, false, false, false, false, false, false, false, false, false, false, false, false, false, false, false, false, false, false, false, false, false]
@[reducible] def zq10_m3 : Array Bool := #[true, true, true, false, false, false, false, false, false, false, false, false, false, false, false, false, false, false, false, false, false, false, false, false, false, false, false, false, false, false]
@[reducible] def zq10_m4 : Array Bool := #[true, true, true, true, false, false, false, false, false, false, false, false, false, false, false, false, false, false, false, false, false, false, false, false, false, false, false, false, false, false]
@[reducible] def zq10_m5 : Array Bool := #[true, true, true, true, true, true, false, false, false, false, false, false, false, false, false, false, false, false, false, false, false, false, false, false, false, false, false, false, false, false]
@[reducible] def zq10_m6 : Array Bool := #[true, true, true, true, true, true, true, false, false, false, false, false, false, false, false, false, false, false, false, false, false, false, false, false, false, false, false, false, false, false]
@[reducible] def zq10_m7 : Array Bool := #[true, true, true, true, true, true, true, true, false, false, false, false, false, false, false, false, false, false, false, false, false, false, false, false, false, false, false, false, false, false]
@[reducible] def zq10_m8 : Array Bool := #[true, true, true, true, true, true, true, true, true, false, false, false, false, false, false, false, false, false, false, false, false, false, false, false, false, false, false, false, false, false]
@[reducible] def zq10_m9 : Array Bool := #[true, true, true, true, true, true, true, true, true, true, false, false, false, false, false, false, false, false, false, false, false, false, false, false, false, false, false, false, false, false]
@[reducible] def zq10_m10 : Array Bool := #[true, true, true, true, true, true, true, true, true, true, true, true, false, false, false, false, false, false, false, false, false, false, false, false, false, false, false, false, false, false]
@[reducible] def zq10_m11 : Array Bool := #[true, true, true, true, true, true, true, true, true, true, true, true, true, false, false, false, false, false, false, false, false, false, false, false, false, false, false, false, false, false]
@[reducible] def zq10_m12 : Array Bool := #[true, true, true, true, true, true, true, true, true, true, true, true, true, true, false, false, false, false, false, false, false, false, false, false, false, false, false, false, false, false]
@[reducible] def zq10_m13 : Array Bool := #[true, true, true, true, true, true, true, true, true, true, true, true, true, true, true, false, false, false, false, false, false, false, false, false, false, false, false, false, false, false]
@[reducible] def zq10_m14 : Array Bool := #[true, true, true, true, true, true, true, true, true, true, true, true, true, true, true, true, false, false, false, false, false, false, false, false, false, false, false, false, false, false]
@[reducible] def zq10_m15 : Array Bool := #[true, true, true, true, true, true, true, true, true, true, true, true, true, true, true, true, true, false, false, false, false, false, false, false, false, false, false, false, false, false]
@[reducible] def zq10_m16 : Array Bool := #[true, true, true, true, true, true, true, true, true, true, true, true, true, true, true, true, true, true, false, false, false, false, false, false, false, false, false, false, false, false]
@[reducible] def zq10_m17 : Array Bool := #[true, true, true, true, true, true, true, true, true, true, true, true, true, true, true, true, true, true, true, false, false, false, false, false, false, false, false, false, false, false]
@[reducible] def zq10_m18 : Array Bool := #[true, true, true, true, true, true, true, true, true, true, true, true, true, true, true, true, true, true, true, true, false, false, false, false, false, false, false, false, false, false]
@[reducible] def zq10_m19 : Array Bool := #[true, true, true, true, true, true, true, true, true, true, true, true, true, true, true, true, true, true, true, true, true, false, false, false, false, false, false, false, false, false]
@[reducible] def zq10_m20 : Array Bool := #[true, true, true, true, true, true, true, true, true, true, true, true, true, true, true, true, true, true, true, true, true, true, false, false, false, false, false, false, false, false]
@[reducible] def zq10_m21 : Array Bool := #[true, true, true, true, true, true, true, true, true, true, true, true, true, true, true, true, true, true, true, true, true, true, true, false, false, false, false, false, false, false]
@[reducible] def zq10_m22 : Array Bool := #[true, true, true, true, true, true, true, true, true, true, true, true, true, true, true, true, true, true, true, true, true, true, true, true, false, false, false, false, false, false]
@[reducible] def zq10_m23 : Array Bool := #[true, true, true, true, true, true, true, true, true, true, true, true, true, true, true, true, true, true, true, true, true, true, true, true, true, false, false, false, false, false]
@[reducible] def zq10_m24 : Array Bool := #[true, true, true, true, true, true, true, true, true, true, true, true, true, true, true, true, true, true, true, true, true, true, true, true, true, true, false, false, false, false]
@[reducible] def zq10_m25 : Array Bool := #[true, true, true, true, true, true, true, true, true, true, true, true, true, true, true, true, true, true, true, true, true, true, true, true, true, true, true, false, false, false]
@[reducible] def zq10_m26 : Array Bool := #[true, true, true, true, true, true, true, true, true, true, true, true, true, true, true, true, true, true, true, true, true, true, true, true, true, true, true, true, false, false]
@[reducible] def zq10_m27 : Array Bool := #[true, true, true, true, true, true, true, true, true, true, true, true, true, true, true, true, true, true, true, true, true, true, true, true, true, true, true, true, true, false]
@[reducible] def zq10_m28 : Array Bool := #[true, true, true, true, true, true, true, true, true, true, true, true, true, true, true, true, true, true, true, true, true, true, true, true, true, true, true, true, true, true]
@[reducible] def zq10_m29 : Array Bool := #[true, true, true, true, false, true, false, false, false, false, false, false, false, false, false, false, false, false, false, false, false, false, false, false, false, false, false, false, false, false]
@[reducible] def zq10_m30 : Array Bool := #[true, true, true, true, true, true, true, true, true, true, false, true, false, false, false, false, false, false, false, false, false, false, false, false, false, false, false, false, false, false]
@[reducible] def zq10_m31 : Array Bool := #[true, true, true, true, true, true, true, true, true, true, true, false, false, false, false, false, false, false, false, false, false, false, false, false, false, false, false, false, false, false]
@[reducible] def zq10_c (a b c d e f : Int) (z : Bool) (o : Int) : Array Value := #[.int .i64 a, .int .i64 b, .int .i64 c, .int .i64 d, .int .i64 e, .int .i64 f, .bool z, .int .i64 o]

/-! ### laws_FnShifted: function 12 -/
def laws_FnShifted.j0 : Nat → Int → Bool → Bool → Bool → Int → Int → Int → Int → Int → Int → Bool → Int → Int → Int → Int → Int → Int → Int → Bool → Int → Int → Int → Int → Int → Int → Int → Bool → Int → Option (Bool)
 | 0, _, _, _, _, _, _, _, _, _, _, _, _, _, _, _, _, _, _, _, _, _, _, _, _, _, _, _, _ => none
 | k + 1, x4, x6, x8, x41, x260000, x260001, x260002, x260003, x260004, x260005, x260006, x260007, x270000, x270001, x270002, x270003, x270004, x270005, x270006, x270007, x280000, x280001, x280002, x280003, x280004, x280005, x280006, x280007 => if x41 = true then (if (x270000 == x280000 && (x270001 == x280001 && (x270002 == x280002 && (x270003 == x280003 && (x270004 == x280004 && (x270005 == x280005 && (x270006 == x280006 && (x270007 == x280007)))))))) = true then (some (x6 == x8)) else (some false)) else ((impl_Shifted.f k x270000 x270001 x270002 x270003 x270004 x270005 x270006 x270007 x260007).bind fun bt280 => ((impl_DateOk.f x270000 x270001 x270002 x270003 x270004 x270005 x270006 x270007).bind fun t290 => (if t290 = true then (if x270007 = x4 then ((impl_SecondsOf.f k x270000 x270001 x270002 x270003 x270004 x270005 x270006 x270007).bind fun t291 => ((impl_SecondsOf.f k x260000 x260001 x260002 x260003 x260004 x260005 x260006 x260007).bind fun t292 => (if t291 = t292 then ((impl_CompareDate.f k x270000 x270001 x270002 x270003 x270004 x270005 x270006 x270007 x260000 x260001 x260002 x260003 x260004 x260005 x260006 x260007).bind fun t293 => (if t293 = 0 then (if bt280.2.2.2.2.2.2.2.2 = true then (some (bt280.1 == x260000 && (bt280.2.1 == x260001 && (bt280.2.2.1 == x260002 && (bt280.2.2.2.1 == x260003 && (bt280.2.2.2.2.1 == x260004 && (bt280.2.2.2.2.2.1 == x260005 && (bt280.2.2.2.2.2.2.1 == x260006 && (bt280.2.2.2.2.2.2.2.1 == x260007))))))))) else (some false)) else (some false))) else (some false)))) else (some false)) else (some false))))
def laws_FnShifted.f (k : Nat) (l0 : List Int) : Option (Bool) := (laws_big.f l0).bind fun t249 => (if t249 = true then (some true) else ((spec_DrawShifted.f k l0).bind fun bt250 => ((impl_Shifted.f k bt250.1 bt250.2.1 bt250.2.2.1 bt250.2.2.2.1 bt250.2.2.2.2.1 bt250.2.2.2.2.2.1 bt250.2.2.2.2.2.2.1 bt250.2.2.2.2.2.2.2.1 bt250.2.2.2.2.2.2.2.2).bind fun bt260 => ((spec_Shifted.f k bt250.1 bt250.2.1 bt250.2.2.1 bt250.2.2.2.1 bt250.2.2.2.2.1 bt250.2.2.2.2.2.1 bt250.2.2.2.2.2.2.1 bt250.2.2.2.2.2.2.2.1 bt250.2.2.2.2.2.2.2.2).bind fun bt270 => (if (!(bt260.1 == bt270.1) || (!(bt260.2.1 == bt270.2.1) || (!(bt260.2.2.1 == bt270.2.2.1) || (!(bt260.2.2.2.1 == bt270.2.2.2.1) || (!(bt260.2.2.2.2.1 == bt270.2.2.2.2.1) || (!(bt260.2.2.2.2.2.1 == bt270.2.2.2.2.2.1) || (!(bt260.2.2.2.2.2.2.1 == bt270.2.2.2.2.2.2.1) || (!(bt260.2.2.2.2.2.2.2.1 == bt270.2.2.2.2.2.2.2.1))))))))) = true then (laws_FnShifted.j0 k bt250.2.2.2.2.2.2.2.2 bt260.2.2.2.2.2.2.2.2 bt270.2.2.2.2.2.2.2.2 true bt250.1 bt250.2.1 bt250.2.2.1 bt250.2.2.2.1 bt250.2.2.2.2.1 bt250.2.2.2.2.2.1 bt250.2.2.2.2.2.2.1 bt250.2.2.2.2.2.2.2.1 bt260.1 bt260.2.1 bt260.2.2.1 bt260.2.2.2.1 bt260.2.2.2.2.1 bt260.2.2.2.2.2.1 bt260.2.2.2.2.2.2.1 bt260.2.2.2.2.2.2.2.1 bt270.1 bt270.2.1 bt270.2.2.1 bt270.2.2.2.1 bt270.2.2.2.2.1 bt270.2.2.2.2.2.1 bt270.2.2.2.2.2.2.1 bt270.2.2.2.2.2.2.2.1) else (if (bt260.2.2.2.2.2.2.2.2 != bt270.2.2.2.2.2.2.2.2) = true then (laws_FnShifted.j0 k bt250.2.2.2.2.2.2.2.2 bt260.2.2.2.2.2.2.2.2 bt270.2.2.2.2.2.2.2.2 true bt250.1 bt250.2.1 bt250.2.2.1 bt250.2.2.2.1 bt250.2.2.2.2.1 bt250.2.2.2.2.2.1 bt250.2.2.2.2.2.2.1 bt250.2.2.2.2.2.2.2.1 bt260.1 bt260.2.1 bt260.2.2.1 bt260.2.2.2.1 bt260.2.2.2.2.1 bt260.2.2.2.2.2.1 bt260.2.2.2.2.2.2.1 bt260.2.2.2.2.2.2.2.1 bt270.1 bt270.2.1 bt270.2.2.1 bt270.2.2.2.1 bt270.2.2.2.2.1 bt270.2.2.2.2.2.1 bt270.2.2.2.2.2.2.1 bt270.2.2.2.2.2.2.2.1) else (laws_FnShifted.j0 k bt250.2.2.2.2.2.2.2.2 bt260.2.2.2.2.2.2.2.2 bt270.2.2.2.2.2.2.2.2 (!bt260.2.2.2.2.2.2.2.2) bt250.1 bt250.2.1 bt250.2.2.1 bt250.2.2.2.1 bt250.2.2.2.2.1 bt250.2.2.2.2.2.1 bt250.2.2.2.2.2.2.1 bt250.2.2.2.2.2.2.2.1 bt260.1 bt260.2.1 bt260.2.2.1 bt260.2.2.2.1 bt260.2.2.2.2.1 bt260.2.2.2.2.2.1 bt260.2.2.2.2.2.2.1 bt260.2.2.2.2.2.2.2.1 bt270.1 bt270.2.1 bt270.2.2.1 bt270.2.2.2.1 bt270.2.2.2.2.1 bt270.2.2.2.2.2.1 bt270.2.2.2.2.2.2.1 bt270.2.2.2.2.2.2.2.1)))))))
theorem laws_FnShifted.mono_l : ∀ k, (∀ y0 y1 y2 y3 y4 y5 y6 y7 y8 y9 y10 y11 y12 y13 y14 y15 y16 y17 y18 y19 y20 y21 y22 y23 y24 y25 y26 y27, LeO (laws_FnShifted.j0 k y0 y1 y2 y3 y4 y5 y6 y7 y8 y9 y10 y11 y12 y13 y14 y15 y16 y17 y18 y19 y20 y21 y22 y23 y24 y25 y26 y27) (laws_FnShifted.j0 (k + 1) y0 y1 y2 y3 y4 y5 y6 y7 y8 y9 y10 y11 y12 y13 y14 y15 y16 y17 y18 y19 y20 y21 y22 y23 y24 y25 y26 y27))
 | 0 => fun _ _ _ _ _ _ _ _ _ _ _ _ _ _ _ _ _ _ _ _ _ _ _ _ _ _ _ _ r h => by simp [laws_FnShifted.j0] at h
 | k + 1 => by
  have ih0 := laws_FnShifted.mono_l k
  ·intro y0 y1 y2 y3 y4 y5 y6 y7 y8 y9 y10 y11 y12 y13 y14 y15 y16 y17 y18 y19 y20 y21 y22 y23 y24 y25 y26 y27
   unfold laws_FnShifted.j0
   repeat' first
   | (with_reducible exact ih0 _ _ _ _ _ _ _ _ _ _ _ _ _ _ _ _ _ _ _ _ _ _ _ _ _ _ _ _)
   | (with_reducible exact impl_CompareDate.mono _ _ _ _ _ _ _ _ _ _ _ _ _ _ _ _ _)
   | (with_reducible exact impl_SecondsOf.mono _ _ _ _ _ _ _ _ _)
   | (with_reducible exact impl_Shifted.mono _ _ _ _ _ _ _ _ _ _)
   | (with_reducible exact spec_DrawShifted.mono _ _)
   | (with_reducible exact spec_Shifted.mono _ _ _ _ _ _ _ _ _ _)
   | (with_reducible exact LeO.refl _)
   | (with_reducible exact LeO.none _)
   | (with_reducible refine LeO.ite ?_ ?_)
   | (with_reducible refine LeO.bind ?_ (fun _ => ?_))
   | exact ih0 _ _ _ _ _ _ _ _ _ _ _ _ _ _ _ _ _ _ _ _ _ _ _ _ _ _ _ _
   | exact impl_CompareDate.mono _ _ _ _ _ _ _ _ _ _ _ _ _ _ _ _ _
   | exact impl_SecondsOf.mono _ _ _ _ _ _ _ _ _
   | exact impl_Shifted.mono _ _ _ _ _ _ _ _ _ _
   | exact spec_DrawShifted.mono _ _
   | exact spec_Shifted.mono _ _ _ _ _ _ _ _ _ _
   | exact LeO.none _
   | refine LeO.ite ?_ ?_
   | refine LeO.bind ?_ (fun _ => ?_)
theorem laws_FnShifted.mono : ∀ a0 k, LeO (laws_FnShifted.f k a0) (laws_FnShifted.f (k + 1) a0) := by
 intro a0 k
 have ih0 := laws_FnShifted.mono_l k
 unfold laws_FnShifted.f
 repeat' first
   | (with_reducible exact ih0 _ _ _ _ _ _ _ _ _ _ _ _ _ _ _ _ _ _ _ _ _ _ _ _ _ _ _ _)
   | (with_reducible exact impl_CompareDate.mono _ _ _ _ _ _ _ _ _ _ _ _ _ _ _ _ _)
   | (with_reducible exact impl_SecondsOf.mono _ _ _ _ _ _ _ _ _)
   | (with_reducible exact impl_Shifted.mono _ _ _ _ _ _ _ _ _ _)
   | (with_reducible exact spec_DrawShifted.mono _ _)
   | (with_reducible exact spec_Shifted.mono _ _ _ _ _ _ _ _ _ _)
   | (with_reducible exact LeO.refl _)
   | (with_reducible exact LeO.none _)
   | (with_reducible refine LeO.ite ?_ ?_)
   | (with_reducible refine LeO.bind ?_ (fun _ => ?_))
   | exact ih0 _ _ _ _ _ _ _ _ _ _ _ _ _ _ _ _ _ _ _ _ _ _ _ _ _ _ _ _
   | exact impl_CompareDate.mono _ _ _ _ _ _ _ _ _ _ _ _ _ _ _ _ _
   | exact impl_SecondsOf.mono _ _ _ _ _ _ _ _ _
   | exact impl_Shifted.mono _ _ _ _ _ _ _ _ _ _
   | exact spec_DrawShifted.mono _ _
   | exact spec_Shifted.mono _ _ _ _ _ _ _ _ _ _
   | exact LeO.none _
   | refine LeO.ite ?_ ?_
   | refine LeO.bind ?_ (fun _ => ?_)
def laws_FnShifted.T9 : Bool × List (List Nat × List Nat) := (true, [([], []), ([0], [0]), ([1, 1], [1]), ([2], [2]), ([3, 2], [2, 3]), ([2], [2]), ([4, 5, 2], [2, 4, 5]), ([2, 6], [2, 6]), ([7, 2], [7]), ([8], [8]), ([9, 8, 8], [8, 9]), ([8], [8]), ([11, 10, 8], [8, 11]), ([10, 12, 8], [8, 10, 12]), ([8, 13], [8, 13]), ([14, 12], [14]), ([15], [15]), ([15], [15]), ([16, 17, 15, 15], [15, 16, 17]), ([18, 15], [15, 18]), ([15, 19], [15, 19]), ([20, 18], [20]), ([21], [21]), ([21, 22], [21, 22]), ([23, 21], [23]), ([24], [24]), ([24], [24]), ([25, 26, 24], [24, 25, 26]), ([24, 27], [24, 27]), ([28, 24, 0, 1, 2, 3, 4, 5, 6, 7, 8, 9, 10, 11, 12, 13, 14, 15, 16, 17, 18, 19, 20, 21, 22, 23, 24, 25, 26, 27, 28], [28])])
def laws_FnShifted.B9 : List Nat := [0, 1, 3, 7, 15, 7, 63, 127, 255, 511, 1023, 511, 4095, 8191, 16383, 32767, 65535, 65535, 262143, 524287, 1048575, 2097151, 4194303, 8388607, 16777215, 33554431, 33554431, 134217727, 268435455, 536870911]
theorem laws_FnShifted.tab9 : rtab .any (opsOf Try.f12 9) = laws_FnShifted.T9 := by kernel_rfl
theorem laws_FnShifted.bits9 : waitsOk laws_FnShifted.T9.2 laws_FnShifted.B9 = true := by kernel_rfl
set_option maxHeartbeats 100000000 in
set_option maxRecDepth 100000 in
theorem laws_FnShifted.calls (k : Nat) (A0 : Option Addr) (c0 : Nat) (l0 : List Int) (r : Bool) (w : World) (hr0 : Kd.C (Kd.int .u8) w A0 l0.length l0) (hc0 : l0.length ≤ c0) (h : laws_FnShifted.f k l0 = some r) :
  Calls Try.prog 12 #[.slice A0 l0.length c0] w fun e w' => e = .returned (.bool r) ∧ Below w.heap.size w w' := by
 have hu29 := Try.underlying29
 have HR0 := Aside0.mk hr0
 have HC0 := Aside0.mk hc0
 clear hr0 hc0
 have HB := Aside0.mk (Below.refl w.heap.size w)
 have H : ((laws_big.f l0).bind fun t249 => (if t249 = true then (some true) else ((spec_DrawShifted.f k l0).bind fun bt250 => ((impl_Shifted.f k bt250.1 bt250.2.1 bt250.2.2.1 bt250.2.2.2.1 bt250.2.2.2.2.1 bt250.2.2.2.2.2.1 bt250.2.2.2.2.2.2.1 bt250.2.2.2.2.2.2.2.1 bt250.2.2.2.2.2.2.2.2).bind fun bt260 => ((spec_Shifted.f k bt250.1 bt250.2.1 bt250.2.2.1 bt250.2.2.2.1 bt250.2.2.2.2.1 bt250.2.2.2.2.2.1 bt250.2.2.2.2.2.2.1 bt250.2.2.2.2.2.2.2.1 bt250.2.2.2.2.2.2.2.2).bind fun bt270 => (if (!(bt260.1 == bt270.1) || (!(bt260.2.1 == bt270.2.1) || (!(bt260.2.2.1 == bt270.2.2.1) || (!(bt260.2.2.2.1 == bt270.2.2.2.1) || (!(bt260.2.2.2.2.1 == bt270.2.2.2.2.1) || (!(bt260.2.2.2.2.2.1 == bt270.2.2.2.2.2.1) || (!(bt260.2.2.2.2.2.2.1 == bt270.2.2.2.2.2.2.1) || (!(bt260.2.2.2.2.2.2.2.1 == bt270.2.2.2.2.2.2.2.1))))))))) = true then (laws_FnShifted.j0 k bt250.2.2.2.2.2.2.2.2 bt260.2.2.2.2.2.2.2.2 bt270.2.2.2.2.2.2.2.2 true bt250.1 bt250.2.1 bt250.2.2.1 bt250.2.2.2.1 bt250.2.2.2.2.1 bt250.2.2.2.2.2.1 bt250.2.2.2.2.2.2.1 bt250.2.2.2.2.2.2.2.1 bt260.1 bt260.2.1 bt260.2.2.1 bt260.2.2.2.1 bt260.2.2.2.2.1 bt260.2.2.2.2.2.1 bt260.2.2.2.2.2.2.1 bt260.2.2.2.2.2.2.2.1 bt270.1 bt270.2.1 bt270.2.2.1 bt270.2.2.2.1 bt270.2.2.2.2.1 bt270.2.2.2.2.2.1 bt270.2.2.2.2.2.2.1 bt270.2.2.2.2.2.2.2.1) else (if (bt260.2.2.2.2.2.2.2.2 != bt270.2.2.2.2.2.2.2.2) = true then (laws_FnShifted.j0 k bt250.2.2.2.2.2.2.2.2 bt260.2.2.2.2.2.2.2.2 bt270.2.2.2.2.2.2.2.2 true bt250.1 bt250.2.1 bt250.2.2.1 bt250.2.2.2.1 bt250.2.2.2.2.1 bt250.2.2.2.2.2.1 bt250.2.2.2.2.2.2.1 bt250.2.2.2.2.2.2.2.1 bt260.1 bt260.2.1 bt260.2.2.1 bt260.2.2.2.1 bt260.2.2.2.2.1 bt260.2.2.2.2.2.1 bt260.2.2.2.2.2.2.1 bt260.2.2.2.2.2.2.2.1 bt270.1 bt270.2.1 bt270.2.2.1 bt270.2.2.2.1 bt270.2.2.2.2.1 bt270.2.2.2.2.2.1 bt270.2.2.2.2.2.2.1 bt270.2.2.2.2.2.2.2.1) else (laws_FnShifted.j0 k bt250.2.2.2.2.2.2.2.2 bt260.2.2.2.2.2.2.2.2 bt270.2.2.2.2.2.2.2.2 (!bt260.2.2.2.2.2.2.2.2) bt250.1 bt250.2.1 bt250.2.2.1 bt250.2.2.2.1 bt250.2.2.2.2.1 bt250.2.2.2.2.2.1 bt250.2.2.2.2.2.2.1 bt250.2.2.2.2.2.2.2.1 bt260.1 bt260.2.1 bt260.2.2.1 bt260.2.2.2.1 bt260.2.2.2.2.1 bt260.2.2.2.2.2.1 bt260.2.2.2.2.2.2.1 bt260.2.2.2.2.2.2.2.1 bt270.1 bt270.2.1 bt270.2.2.1 bt270.2.2.2.1 bt270.2.2.2.2.1 bt270.2.2.2.2.2.1 bt270.2.2.2.2.2.2.1 bt270.2.2.2.2.2.2.2.1)))))))) = some r := h
 clear h
 replace H := Option.bind_eq_some_iff.mp H
 obtain ⟨t249, A20, H⟩ := H
 replace H : (if t249 = true then (some true) else ((spec_DrawShifted.f k l0).bind fun bt250 => ((impl_Shifted.f k bt250.1 bt250.2.1 bt250.2.2.1 bt250.2.2.2.1 bt250.2.2.2.2.1 bt250.2.2.2.2.2.1 bt250.2.2.2.2.2.2.1 bt250.2.2.2.2.2.2.2.1 bt250.2.2.2.2.2.2.2.2).bind fun bt260 => ((spec_Shifted.f k bt250.1 bt250.2.1 bt250.2.2.1 bt250.2.2.2.1 bt250.2.2.2.2.1 bt250.2.2.2.2.2.1 bt250.2.2.2.2.2.2.1 bt250.2.2.2.2.2.2.2.1 bt250.2.2.2.2.2.2.2.2).bind fun bt270 => (if (!(bt260.1 == bt270.1) || (!(bt260.2.1 == bt270.2.1) || (!(bt260.2.2.1 == bt270.2.2.1) || (!(bt260.2.2.2.1 == bt270.2.2.2.1) || (!(bt260.2.2.2.2.1 == bt270.2.2.2.2.1) || (!(bt260.2.2.2.2.2.1 == bt270.2.2.2.2.2.1) || (!(bt260.2.2.2.2.2.2.1 == bt270.2.2.2.2.2.2.1) || (!(bt260.2.2.2.2.2.2.2.1 == bt270.2.2.2.2.2.2.2.1))))))))) = true then (laws_FnShifted.j0 k bt250.2.2.2.2.2.2.2.2 bt260.2.2.2.2.2.2.2.2 bt270.2.2.2.2.2.2.2.2 true bt250.1 bt250.2.1 bt250.2.2.1 bt250.2.2.2.1 bt250.2.2.2.2.1 bt250.2.2.2.2.2.1 bt250.2.2.2.2.2.2.1 bt250.2.2.2.2.2.2.2.1 bt260.1 bt260.2.1 bt260.2.2.1 bt260.2.2.2.1 bt260.2.2.2.2.1 bt260.2.2.2.2.2.1 bt260.2.2.2.2.2.2.1 bt260.2.2.2.2.2.2.2.1 bt270.1 bt270.2.1 bt270.2.2.1 bt270.2.2.2.1 bt270.2.2.2.2.1 bt270.2.2.2.2.2.1 bt270.2.2.2.2.2.2.1 bt270.2.2.2.2.2.2.2.1) else (if (bt260.2.2.2.2.2.2.2.2 != bt270.2.2.2.2.2.2.2.2) = true then (laws_FnShifted.j0 k bt250.2.2.2.2.2.2.2.2 bt260.2.2.2.2.2.2.2.2 bt270.2.2.2.2.2.2.2.2 true bt250.1 bt250.2.1 bt250.2.2.1 bt250.2.2.2.1 bt250.2.2.2.2.1 bt250.2.2.2.2.2.1 bt250.2.2.2.2.2.2.1 bt250.2.2.2.2.2.2.2.1 bt260.1 bt260.2.1 bt260.2.2.1 bt260.2.2.2.1 bt260.2.2.2.2.1 bt260.2.2.2.2.2.1 bt260.2.2.2.2.2.2.1 bt260.2.2.2.2.2.2.2.1 bt270.1 bt270.2.1 bt270.2.2.1 bt270.2.2.2.1 bt270.2.2.2.2.1 bt270.2.2.2.2.2.1 bt270.2.2.2.2.2.2.1 bt270.2.2.2.2.2.2.2.1) else (laws_FnShifted.j0 k bt250.2.2.2.2.2.2.2.2 bt260.2.2.2.2.2.2.2.2 bt270.2.2.2.2.2.2.2.2 (!bt260.2.2.2.2.2.2.2.2) bt250.1 bt250.2.1 bt250.2.2.1 bt250.2.2.2.1 bt250.2.2.2.2.1 bt250.2.2.2.2.2.1 bt250.2.2.2.2.2.2.1 bt250.2.2.2.2.2.2.2.1 bt260.1 bt260.2.1 bt260.2.2.1 bt260.2.2.2.1 bt260.2.2.2.2.1 bt260.2.2.2.2.2.1 bt260.2.2.2.2.2.2.1 bt260.2.2.2.2.2.2.2.1 bt270.1 bt270.2.1 bt270.2.2.1 bt270.2.2.2.1 bt270.2.2.2.2.1 bt270.2.2.2.2.2.1 bt270.2.2.2.2.2.2.1 bt270.2.2.2.2.2.2.2.1))))))) = some r := H
 have A2 := Aside0.mk A20
 clear A20
 by_cases c3 : t249 = true
 ·subst c3
  have H1 : (some true) = some r := by rw [if_pos rfl] at H; exact H
  clear H
  have H := H1
  clear H1
  obtain rfl := Option.some.inj H
  go_enter Try.func12, Try.ntmps12
  go_wp2_with (first | ((with_reducible refine gate_callee (f := 24) rfl ?_); refine goesL_ (some 12) rfl rfl Try.func24 (by kernel_rfl) rfl #[.slice A0 l0.length c0] rfl (by (try simp only [List.map_toArray, List.map_cons, List.map_nil]); first | done | rfl | (simp only [List.length_drop, List.length_take]; rfl)) ?_; (with_reducible refine (laws_big.calls _ _ l0 true _ ?side1 ?side2 A2.out).mono ?_); (case side1 => repeat (first | exact HR0.out | (with_reducible refine Kd.C_alloc ?_ _) | (with_reducible refine Kd.C_drewN ?_ _) | (with_reducible refine Kd.C_drew ?_))); (case side2 => exact HC0.out); rintro e w' ⟨rfl, ⟨nd, rfl⟩⟩; refine ⟨_, rfl, ?_⟩))
  go_ret
  exact ⟨by first | rfl | (simp [*] <;> rfl), by repeat (first | (with_reducible first | exact HB.out | apply below_alloc | apply pw_below_drewN | apply below_drew1) | exact HB.out)⟩
 ·replace c3 := Bool.eq_false_iff.mpr c3
  subst c3
  have H1 : ((spec_DrawShifted.f k l0).bind fun bt250 => ((impl_Shifted.f k bt250.1 bt250.2.1 bt250.2.2.1 bt250.2.2.2.1 bt250.2.2.2.2.1 bt250.2.2.2.2.2.1 bt250.2.2.2.2.2.2.1 bt250.2.2.2.2.2.2.2.1 bt250.2.2.2.2.2.2.2.2).bind fun bt260 => ((spec_Shifted.f k bt250.1 bt250.2.1 bt250.2.2.1 bt250.2.2.2.1 bt250.2.2.2.2.1 bt250.2.2.2.2.2.1 bt250.2.2.2.2.2.2.1 bt250.2.2.2.2.2.2.2.1 bt250.2.2.2.2.2.2.2.2).bind fun bt270 => (if (!(bt260.1 == bt270.1) || (!(bt260.2.1 == bt270.2.1) || (!(bt260.2.2.1 == bt270.2.2.1) || (!(bt260.2.2.2.1 == bt270.2.2.2.1) || (!(bt260.2.2.2.2.1 == bt270.2.2.2.2.1) || (!(bt260.2.2.2.2.2.1 == bt270.2.2.2.2.2.1) || (!(bt260.2.2.2.2.2.2.1 == bt270.2.2.2.2.2.2.1) || (!(bt260.2.2.2.2.2.2.2.1 == bt270.2.2.2.2.2.2.2.1))))))))) = true then (laws_FnShifted.j0 k bt250.2.2.2.2.2.2.2.2 bt260.2.2.2.2.2.2.2.2 bt270.2.2.2.2.2.2.2.2 true bt250.1 bt250.2.1 bt250.2.2.1 bt250.2.2.2.1 bt250.2.2.2.2.1 bt250.2.2.2.2.2.1 bt250.2.2.2.2.2.2.1 bt250.2.2.2.2.2.2.2.1 bt260.1 bt260.2.1 bt260.2.2.1 bt260.2.2.2.1 bt260.2.2.2.2.1 bt260.2.2.2.2.2.1 bt260.2.2.2.2.2.2.1 bt260.2.2.2.2.2.2.2.1 bt270.1 bt270.2.1 bt270.2.2.1 bt270.2.2.2.1 bt270.2.2.2.2.1 bt270.2.2.2.2.2.1 bt270.2.2.2.2.2.2.1 bt270.2.2.2.2.2.2.2.1) else (if (bt260.2.2.2.2.2.2.2.2 != bt270.2.2.2.2.2.2.2.2) = true then (laws_FnShifted.j0 k bt250.2.2.2.2.2.2.2.2 bt260.2.2.2.2.2.2.2.2 bt270.2.2.2.2.2.2.2.2 true bt250.1 bt250.2.1 bt250.2.2.1 bt250.2.2.2.1 bt250.2.2.2.2.1 bt250.2.2.2.2.2.1 bt250.2.2.2.2.2.2.1 bt250.2.2.2.2.2.2.2.1 bt260.1 bt260.2.1 bt260.2.2.1 bt260.2.2.2.1 bt260.2.2.2.2.1 bt260.2.2.2.2.2.1 bt260.2.2.2.2.2.2.1 bt260.2.2.2.2.2.2.2.1 bt270.1 bt270.2.1 bt270.2.2.1 bt270.2.2.2.1 bt270.2.2.2.2.1 bt270.2.2.2.2.2.1 bt270.2.2.2.2.2.2.1 bt270.2.2.2.2.2.2.2.1) else (laws_FnShifted.j0 k bt250.2.2.2.2.2.2.2.2 bt260.2.2.2.2.2.2.2.2 bt270.2.2.2.2.2.2.2.2 (!bt260.2.2.2.2.2.2.2.2) bt250.1 bt250.2.1 bt250.2.2.1 bt250.2.2.2.1 bt250.2.2.2.2.1 bt250.2.2.2.2.2.1 bt250.2.2.2.2.2.2.1 bt250.2.2.2.2.2.2.2.1 bt260.1 bt260.2.1 bt260.2.2.1 bt260.2.2.2.1 bt260.2.2.2.2.1 bt260.2.2.2.2.2.1 bt260.2.2.2.2.2.2.1 bt260.2.2.2.2.2.2.2.1 bt270.1 bt270.2.1 bt270.2.2.1 bt270.2.2.2.1 bt270.2.2.2.2.1 bt270.2.2.2.2.2.1 bt270.2.2.2.2.2.2.1 bt270.2.2.2.2.2.2.2.1)))))) = some r := by rw [if_neg (show ¬ (false = true) by decide)] at H; exact H
  clear H
  have H := H1
  clear H1
  replace H := Option.bind_eq_some_iff.mp H
  obtain ⟨⟨t250, t251, t252, t253, t254, t255, t256, t257, t258⟩, A40, H⟩ := H
  replace H : ((impl_Shifted.f k t250 t251 t252 t253 t254 t255 t256 t257 t258).bind fun bt260 => ((spec_Shifted.f k t250 t251 t252 t253 t254 t255 t256 t257 t258).bind fun bt270 => (if (!(bt260.1 == bt270.1) || (!(bt260.2.1 == bt270.2.1) || (!(bt260.2.2.1 == bt270.2.2.1) || (!(bt260.2.2.2.1 == bt270.2.2.2.1) || (!(bt260.2.2.2.2.1 == bt270.2.2.2.2.1) || (!(bt260.2.2.2.2.2.1 == bt270.2.2.2.2.2.1) || (!(bt260.2.2.2.2.2.2.1 == bt270.2.2.2.2.2.2.1) || (!(bt260.2.2.2.2.2.2.2.1 == bt270.2.2.2.2.2.2.2.1))))))))) = true then (laws_FnShifted.j0 k t258 bt260.2.2.2.2.2.2.2.2 bt270.2.2.2.2.2.2.2.2 true t250 t251 t252 t253 t254 t255 t256 t257 bt260.1 bt260.2.1 bt260.2.2.1 bt260.2.2.2.1 bt260.2.2.2.2.1 bt260.2.2.2.2.2.1 bt260.2.2.2.2.2.2.1 bt260.2.2.2.2.2.2.2.1 bt270.1 bt270.2.1 bt270.2.2.1 bt270.2.2.2.1 bt270.2.2.2.2.1 bt270.2.2.2.2.2.1 bt270.2.2.2.2.2.2.1 bt270.2.2.2.2.2.2.2.1) else (if (bt260.2.2.2.2.2.2.2.2 != bt270.2.2.2.2.2.2.2.2) = true then (laws_FnShifted.j0 k t258 bt260.2.2.2.2.2.2.2.2 bt270.2.2.2.2.2.2.2.2 true t250 t251 t252 t253 t254 t255 t256 t257 bt260.1 bt260.2.1 bt260.2.2.1 bt260.2.2.2.1 bt260.2.2.2.2.1 bt260.2.2.2.2.2.1 bt260.2.2.2.2.2.2.1 bt260.2.2.2.2.2.2.2.1 bt270.1 bt270.2.1 bt270.2.2.1 bt270.2.2.2.1 bt270.2.2.2.2.1 bt270.2.2.2.2.2.1 bt270.2.2.2.2.2.2.1 bt270.2.2.2.2.2.2.2.1) else (laws_FnShifted.j0 k t258 bt260.2.2.2.2.2.2.2.2 bt270.2.2.2.2.2.2.2.2 (!bt260.2.2.2.2.2.2.2.2) t250 t251 t252 t253 t254 t255 t256 t257 bt260.1 bt260.2.1 bt260.2.2.1 bt260.2.2.2.1 bt260.2.2.2.2.1 bt260.2.2.2.2.2.1 bt260.2.2.2.2.2.2.1 bt260.2.2.2.2.2.2.2.1 bt270.1 bt270.2.1 bt270.2.2.1 bt270.2.2.2.1 bt270.2.2.2.2.1 bt270.2.2.2.2.2.1 bt270.2.2.2.2.2.2.1 bt270.2.2.2.2.2.2.2.1))))) = some r := H
  have A4 := Aside0.mk A40
  clear A40
  replace H := Option.bind_eq_some_iff.mp H
  obtain ⟨⟨t260, t261, t262, t263, t264, t265, t266, t267, t268⟩, A50, H⟩ := H
  replace H : ((spec_Shifted.f k t250 t251 t252 t253 t254 t255 t256 t257 t258).bind fun bt270 => (if (!(t260 == bt270.1) || (!(t261 == bt270.2.1) || (!(t262 == bt270.2.2.1) || (!(t263 == bt270.2.2.2.1) || (!(t264 == bt270.2.2.2.2.1) || (!(t265 == bt270.2.2.2.2.2.1) || (!(t266 == bt270.2.2.2.2.2.2.1) || (!(t267 == bt270.2.2.2.2.2.2.2.1))))))))) = true then (laws_FnShifted.j0 k t258 t268 bt270.2.2.2.2.2.2.2.2 true t250 t251 t252 t253 t254 t255 t256 t257 t260 t261 t262 t263 t264 t265 t266 t267 bt270.1 bt270.2.1 bt270.2.2.1 bt270.2.2.2.1 bt270.2.2.2.2.1 bt270.2.2.2.2.2.1 bt270.2.2.2.2.2.2.1 bt270.2.2.2.2.2.2.2.1) else (if (t268 != bt270.2.2.2.2.2.2.2.2) = true then (laws_FnShifted.j0 k t258 t268 bt270.2.2.2.2.2.2.2.2 true t250 t251 t252 t253 t254 t255 t256 t257 t260 t261 t262 t263 t264 t265 t266 t267 bt270.1 bt270.2.1 bt270.2.2.1 bt270.2.2.2.1 bt270.2.2.2.2.1 bt270.2.2.2.2.2.1 bt270.2.2.2.2.2.2.1 bt270.2.2.2.2.2.2.2.1) else (laws_FnShifted.j0 k t258 t268 bt270.2.2.2.2.2.2.2.2 (!t268) t250 t251 t252 t253 t254 t255 t256 t257 t260 t261 t262 t263 t264 t265 t266 t267 bt270.1 bt270.2.1 bt270.2.2.1 bt270.2.2.2.1 bt270.2.2.2.2.1 bt270.2.2.2.2.2.1 bt270.2.2.2.2.2.2.1 bt270.2.2.2.2.2.2.2.1)))) = some r := H
  have A5 := Aside0.mk A50
  clear A50
  replace H := Option.bind_eq_some_iff.mp H
  obtain ⟨⟨t270, t271, t272, t273, t274, t275, t276, t277, t278⟩, A60, H⟩ := H
  replace H : (if (!(t260 == t270) || (!(t261 == t271) || (!(t262 == t272) || (!(t263 == t273) || (!(t264 == t274) || (!(t265 == t275) || (!(t266 == t276) || (!(t267 == t277))))))))) = true then (laws_FnShifted.j0 k t258 t268 t278 true t250 t251 t252 t253 t254 t255 t256 t257 t260 t261 t262 t263 t264 t265 t266 t267 t270 t271 t272 t273 t274 t275 t276 t277) else (if (t268 != t278) = true then (laws_FnShifted.j0 k t258 t268 t278 true t250 t251 t252 t253 t254 t255 t256 t257 t260 t261 t262 t263 t264 t265 t266 t267 t270 t271 t272 t273 t274 t275 t276 t277) else (laws_FnShifted.j0 k t258 t268 t278 (!t268) t250 t251 t252 t253 t254 t255 t256 t257 t260 t261 t262 t263 t264 t265 t266 t267 t270 t271 t272 t273 t274 t275 t276 t277))) = some r := H
  have A6 := Aside0.mk A60
  clear A60
  have HC7 := Aside0.mk H
  clear H
  go_enter Try.func12, Try.ntmps12
  go_upto_region 6 with (first | ((with_reducible refine gate_callee (f := 24) rfl ?_); refine goesL_ (some 12) rfl rfl Try.func24 (by kernel_rfl) rfl #[.slice A0 l0.length c0] rfl (by (try simp only [List.map_toArray, List.map_cons, List.map_nil]); first | done | rfl | (simp only [List.length_drop, List.length_take]; rfl)) ?_; (with_reducible refine (laws_big.calls _ _ l0 false _ ?side1 ?side2 A2.out).mono ?_); (case side1 => repeat (first | exact HR0.out | (with_reducible refine Kd.C_alloc ?_ _) | (with_reducible refine Kd.C_drewN ?_ _) | (with_reducible refine Kd.C_drew ?_))); (case side2 => exact HC0.out); rintro e w' ⟨rfl, ⟨nd, rfl⟩⟩; refine ⟨_, rfl, ?_⟩) | ((with_reducible refine gate_callee (f := 30) rfl ?_); refine goesL_ (some 15) rfl rfl Try.func30 (by kernel_rfl) rfl #[.slice A0 l0.length c0] rfl (by (try simp only [List.map_toArray, List.map_cons, List.map_nil]); first | done | rfl | (simp only [List.length_drop, List.length_take]; rfl)) ?_; (with_reducible refine (spec_DrawShifted.calls k _ _ l0 t250 t251 t252 t253 t254 t255 t256 t257 t258 _ ?side1 ?side2 A4.out).mono ?_); (case side1 => repeat (first | exact HR0.out | (with_reducible refine Kd.C_alloc ?_ _) | (with_reducible refine Kd.C_drewN ?_ _) | (with_reducible refine Kd.C_drew ?_))); (case side2 => exact HC0.out); rintro e w8 ⟨rfl, hb⟩; refine ⟨_, rfl, ?_⟩; have n0_ := Aside0.mk (below_step (by repeat (first | (with_reducible first | exact HB.out | apply below_alloc | apply pw_below_drewN | apply below_drew1) | exact HB.out)) hb); clear HB; have HB := n0_; clear n0_; (try clear hb); (try clear hb2); (try clear hk); (try clear hi)) | ((with_reducible refine gate_dst (N := 3) rfl ?_); refine box_event ?hg (N := 3) ?hd (cs := #[.int .i64 0, .int .i64 0, .int .i64 0, .int .i64 0, .int .i64 0, .int .i64 0, .bool false, .int .i64 0]) (t := 29) ?hr ?_; (case hd => rfl); (case hg => rfl); (case hr => first | (go_simp; done) | (go_simp; rfl)); intro gb259 hg w9 hbox hb; have n0_ := Aside0.mk (below_step (by repeat (first | (with_reducible first | exact HB.out | apply below_alloc | apply pw_below_drewN | apply below_drew1) | exact HB.out)) hb); have n1_ := Aside0.mk (hbox); have n2_ := Aside0.mk ((by rw [hg]; exact (below_size (by repeat (first | (with_reducible first | exact HB.out | apply below_alloc | apply pw_below_drewN | apply below_drew1) | exact HB.out))) : w.heap.size ≤ gb259)); have n3_ := Aside0.mk ((by rw [hg]; exact (below_size (by repeat (first | (with_reducible first | exact HB.out | apply below_alloc | apply pw_below_drewN | apply below_drew1) | exact HB.out))) : w.heap.size ≤ gb259)); clear HB; have HB := n0_; have BK259 := n1_; have GW259 := n2_; have GE259 := n3_; clear n0_ n1_ n2_ n3_; clear hb hbox hg; have hcz10_0 : w9.cell? ⟨gb259, 0, none⟩ = some (.int .i64 0) := (blk_cell BK259.out 0).trans rfl; have hcz10_1 : w9.cell? ⟨gb259, 1, none⟩ = some (.int .i64 0) := (blk_cell BK259.out 1).trans rfl; have hcz10_2 : w9.cell? ⟨gb259, 2, none⟩ = some (.int .i64 0) := (blk_cell BK259.out 2).trans rfl; have hcz10_3 : w9.cell? ⟨gb259, 3, none⟩ = some (.int .i64 0) := (blk_cell BK259.out 3).trans rfl; have hcz10_4 : w9.cell? ⟨gb259, 4, none⟩ = some (.int .i64 0) := (blk_cell BK259.out 4).trans rfl; have hcz10_5 : w9.cell? ⟨gb259, 5, none⟩ = some (.int .i64 0) := (blk_cell BK259.out 5).trans rfl; have hcz10_6 : w9.cell? ⟨gb259, 6, none⟩ = some (.bool false) := (blk_cell BK259.out 6).trans rfl; have hcz10_7 : w9.cell? ⟨gb259, 7, none⟩ = some (.int .i64 0) := (blk_cell BK259.out 7).trans rfl; have hfz10_0 := blk_frozen BK259.out 0; have hfz10_1 := blk_frozen BK259.out 1; have hfz10_2 := blk_frozen BK259.out 2; have hfz10_3 := blk_frozen BK259.out 3; have hfz10_4 := blk_frozen BK259.out 4; have hfz10_5 := blk_frozen BK259.out 5; have hfz10_6 := blk_frozen BK259.out 6; have hfz10_7 := blk_frozen BK259.out 7) | ((with_reducible refine gate_store (t := 29) (p := 3) rfl ?_); refine store_event (t := 29) (p := 3) (v := ?vo_w11) (w1 := ((((((((w9.setCell ⟨gb259, 0, none⟩ (.int .i64 t250)).setCell ⟨gb259, 1, none⟩ (.int .i64 t251)).setCell ⟨gb259, 2, none⟩ (.int .i64 t252)).setCell ⟨gb259, 3, none⟩ (.int .i64 t253)).setCell ⟨gb259, 4, none⟩ (.int .i64 t254)).setCell ⟨gb259, 5, none⟩ (.int .i64 t255)).setCell ⟨gb259, 6, none⟩ (.bool t256)).setCell ⟨gb259, 7, none⟩ (.int .i64 t257))) ?hg ?ho ?hn ?hr ?_; (case ho => rfl); (case hg => rfl); (case hn => rfl); (case hr => first | (go_simp; done) | (go_simp; rfl)); intro w11 hw; have n0_ : Aside0 (w11.heap[gb259]? = some (.cells (zq10_c t250 t251 t252 t253 t254 t255 t256 t257) 29 (0, 0))) := ⟨(by rw [hw]; exact (by (with_reducible repeat (first | refine blk_drewN ?_ _ | refine blk_drew ?_ | refine blk_alloc ?_ _)); refine zq10_put8 (cs := #[.int .i64 0, .int .i64 0, .int .i64 0, .int .i64 0, .int .i64 0, .int .i64 0, .bool false, .int .i64 0]) ?_ rfl; (with_reducible repeat (first | refine blk_drewN ?_ _ | refine blk_drew ?_ | refine blk_alloc ?_ _)); exact BK259.out))⟩; have n1_ : Aside0 (Below w.heap.size w w11) := ⟨(by rw [hw]; exact (by repeat (first | (with_reducible first | exact HB.out | apply below_alloc | apply pw_below_drewN | apply below_drew1 | refine below_set ?_ GE259.out) | exact HB.out)))⟩; clear hw; clear BK259; clear HB; have BK259 := n0_; have HB := n1_; clear n0_ n1_; have hcz12_0 : w11.cell? ⟨gb259, 0, none⟩ = some (.int .i64 t250) := (blk_cell BK259.out 0).trans rfl; have hcz12_1 : w11.cell? ⟨gb259, 1, none⟩ = some (.int .i64 t251) := (blk_cell BK259.out 1).trans rfl; have hcz12_2 : w11.cell? ⟨gb259, 2, none⟩ = some (.int .i64 t252) := (blk_cell BK259.out 2).trans rfl; have hcz12_3 : w11.cell? ⟨gb259, 3, none⟩ = some (.int .i64 t253) := (blk_cell BK259.out 3).trans rfl; have hcz12_4 : w11.cell? ⟨gb259, 4, none⟩ = some (.int .i64 t254) := (blk_cell BK259.out 4).trans rfl; have hcz12_5 : w11.cell? ⟨gb259, 5, none⟩ = some (.int .i64 t255) := (blk_cell BK259.out 5).trans rfl; have hcz12_6 : w11.cell? ⟨gb259, 6, none⟩ = some (.bool t256) := (blk_cell BK259.out 6).trans rfl; have hcz12_7 : w11.cell? ⟨gb259, 7, none⟩ = some (.int .i64 t257) := (blk_cell BK259.out 7).trans rfl; have hfz12_0 := blk_frozen BK259.out 0; have hfz12_1 := blk_frozen BK259.out 1; have hfz12_2 := blk_frozen BK259.out 2; have hfz12_3 := blk_frozen BK259.out 3; have hfz12_4 := blk_frozen BK259.out 4; have hfz12_5 := blk_frozen BK259.out 5; have hfz12_6 := blk_frozen BK259.out 6; have hfz12_7 := blk_frozen BK259.out 7) | ((with_reducible refine gate_callee (f := 27) rfl ?_); refine goesL_ (some 21) rfl rfl Try.func27 (by kernel_rfl) rfl #[.agg (zq10_c t250 t251 t252 t253 t254 t255 t256 t257), .int .i64 t258] rfl (by (try simp only [List.map_toArray, List.map_cons, List.map_nil]); first | done | rfl | (simp only [List.length_drop, List.length_take]; rfl)) ?_; (with_reducible refine (impl_Shifted.calls k t250 t251 t252 t253 t254 t255 t256 t257 t258 t260 t261 t262 t263 t264 t265 t266 t267 t268 _ A5.out).mono ?_); rintro e w13 ⟨rfl, hb⟩; refine ⟨_, rfl, ?_⟩; have n0_ := Aside0.mk (blk_below (g := gb259) (o := .cells (zq10_c t250 t251 t252 t253 t254 t255 t256 t257) 29 (0, 0)) (by (with_reducible repeat (first | refine blk_drewN ?_ _ | refine blk_drew ?_ | refine blk_alloc ?_ _)); exact BK259.out) hb); have n1_ := Aside0.mk (below_step (by repeat (first | (with_reducible first | exact HB.out | apply below_alloc | apply pw_below_drewN | apply below_drew1 | refine below_set ?_ GE259.out) | exact HB.out)) hb); clear BK259; clear HB; have BK259 := n0_; have HB := n1_; clear n0_ n1_; (try clear hb); (try clear hb2); (try clear hk); (try clear hi)) | ((with_reducible refine gate_dst (N := 5) rfl ?_); refine box_event ?hg (N := 5) ?hd (cs := #[.int .i64 0, .int .i64 0, .int .i64 0, .int .i64 0, .int .i64 0, .int .i64 0, .bool false, .int .i64 0]) (t := 29) ?hr ?_; (case hd => rfl); (case hg => rfl); (case hr => first | (go_simp; done) | (go_simp; rfl)); intro gb269 hg w14 hbox hb; have n0_ := Aside0.mk (blk_below (g := gb259) (o := .cells (zq10_c t250 t251 t252 t253 t254 t255 t256 t257) 29 (0, 0)) (by (with_reducible repeat (first | refine blk_drewN ?_ _ | refine blk_drew ?_ | refine blk_alloc ?_ _)); exact BK259.out) hb); have n1_ := Aside0.mk (below_step (by repeat (first | (with_reducible first | exact HB.out | apply below_alloc | apply pw_below_drewN | apply below_drew1 | refine below_set ?_ GE259.out) | exact HB.out)) hb); have n2_ := Aside0.mk (hbox); have n3_ := Aside0.mk ((by rw [hg]; exact (below_size (by repeat (first | (with_reducible first | exact HB.out | apply below_alloc | apply pw_below_drewN | apply below_drew1 | refine below_set ?_ GE259.out) | exact HB.out))) : w.heap.size ≤ gb269)); have n4_ := Aside0.mk ((by rw [hg]; exact (below_size (by repeat (first | (with_reducible first | exact HB.out | apply below_alloc | apply pw_below_drewN | apply below_drew1 | refine below_set ?_ GE259.out) | exact HB.out))) : w.heap.size ≤ gb269)); have n5_ := Aside0.mk ((by rw [hg]; exact Nat.ne_of_lt (blk_lt (g := gb259) (o := .cells (zq10_c t250 t251 t252 t253 t254 t255 t256 t257) 29 (0, 0)) (by (with_reducible repeat (first | refine blk_drewN ?_ _ | refine blk_drew ?_ | refine blk_alloc ?_ _)); exact BK259.out)) : gb259 ≠ gb269)); have n6_ := Aside0.mk ((by rw [hg]; exact Nat.ne_of_gt (blk_lt (g := gb259) (o := .cells (zq10_c t250 t251 t252 t253 t254 t255 t256 t257) 29 (0, 0)) (by (with_reducible repeat (first | refine blk_drewN ?_ _ | refine blk_drew ?_ | refine blk_alloc ?_ _)); exact BK259.out)) : gb269 ≠ gb259)); clear BK259; clear HB; have BK259 := n0_; have HB := n1_; have BK269 := n2_; have GW269 := n3_; have GE269 := n4_; have NB259_269 := n5_; have NB269_259 := n6_; clear n0_ n1_ n2_ n3_ n4_ n5_ n6_; clear hb hbox hg; have hnb15 := NB269_259.out; have hnc15 := NB259_269.out; have hcz16_0 : w14.cell? ⟨gb269, 0, none⟩ = some (.int .i64 0) := (blk_cell BK269.out 0).trans rfl; have hcz16_1 : w14.cell? ⟨gb269, 1, none⟩ = some (.int .i64 0) := (blk_cell BK269.out 1).trans rfl; have hcz16_2 : w14.cell? ⟨gb269, 2, none⟩ = some (.int .i64 0) := (blk_cell BK269.out 2).trans rfl; have hcz16_3 : w14.cell? ⟨gb269, 3, none⟩ = some (.int .i64 0) := (blk_cell BK269.out 3).trans rfl; have hcz16_4 : w14.cell? ⟨gb269, 4, none⟩ = some (.int .i64 0) := (blk_cell BK269.out 4).trans rfl; have hcz16_5 : w14.cell? ⟨gb269, 5, none⟩ = some (.int .i64 0) := (blk_cell BK269.out 5).trans rfl; have hcz16_6 : w14.cell? ⟨gb269, 6, none⟩ = some (.bool false) := (blk_cell BK269.out 6).trans rfl; have hcz16_7 : w14.cell? ⟨gb269, 7, none⟩ = some (.int .i64 0) := (blk_cell BK269.out 7).trans rfl; have hfz16_0 := blk_frozen BK269.out 0; have hfz16_1 := blk_frozen BK269.out 1; have hfz16_2 := blk_frozen BK269.out 2; have hfz16_3 := blk_frozen BK269.out 3; have hfz16_4 := blk_frozen BK269.out 4; have hfz16_5 := blk_frozen BK269.out 5; have hfz16_6 := blk_frozen BK269.out 6; have hfz16_7 := blk_frozen BK269.out 7) | ((with_reducible refine gate_store (t := 29) (p := 5) rfl ?_); refine store_event (t := 29) (p := 5) (v := ?vo_w17) (w1 := ((((((((w14.setCell ⟨gb269, 0, none⟩ (.int .i64 t260)).setCell ⟨gb269, 1, none⟩ (.int .i64 t261)).setCell ⟨gb269, 2, none⟩ (.int .i64 t262)).setCell ⟨gb269, 3, none⟩ (.int .i64 t263)).setCell ⟨gb269, 4, none⟩ (.int .i64 t264)).setCell ⟨gb269, 5, none⟩ (.int .i64 t265)).setCell ⟨gb269, 6, none⟩ (.bool t266)).setCell ⟨gb269, 7, none⟩ (.int .i64 t267))) ?hg ?ho ?hn ?hr ?_; (case ho => rfl); (case hg => rfl); (case hn => rfl); (case hr => first | (go_simp; done) | (go_simp; rfl)); intro w17 hw; have n0_ : Aside0 (w17.heap[gb259]? = some (.cells (zq10_c t250 t251 t252 t253 t254 t255 t256 t257) 29 (0, 0))) := ⟨(by rw [hw]; exact (by (with_reducible repeat (first | refine blk_drewN ?_ _ | refine blk_drew ?_ | refine blk_alloc ?_ _ | refine blk_far ?_ NB259_269.out _)); (with_reducible repeat (first | refine blk_drewN ?_ _ | refine blk_drew ?_ | refine blk_alloc ?_ _)); exact BK259.out))⟩; have n1_ : Aside0 (w17.heap[gb269]? = some (.cells (zq10_c t260 t261 t262 t263 t264 t265 t266 t267) 29 (0, 0))) := ⟨(by rw [hw]; exact (by (with_reducible repeat (first | refine blk_drewN ?_ _ | refine blk_drew ?_ | refine blk_alloc ?_ _)); refine zq10_put8 (cs := #[.int .i64 0, .int .i64 0, .int .i64 0, .int .i64 0, .int .i64 0, .int .i64 0, .bool false, .int .i64 0]) ?_ rfl; (with_reducible repeat (first | refine blk_drewN ?_ _ | refine blk_drew ?_ | refine blk_alloc ?_ _)); exact BK269.out))⟩; have n2_ : Aside0 (Below w.heap.size w w17) := ⟨(by rw [hw]; exact (by repeat (first | (with_reducible first | exact HB.out | apply below_alloc | apply pw_below_drewN | apply below_drew1 | refine below_set ?_ GE259.out | refine below_set ?_ GE269.out) | exact HB.out)))⟩; clear hw; clear BK259; clear BK269; clear HB; have BK259 := n0_; have BK269 := n1_; have HB := n2_; clear n0_ n1_ n2_; have hcz18_0 : w17.cell? ⟨gb259, 0, none⟩ = some (.int .i64 t250) := (blk_cell BK259.out 0).trans rfl; have hcz18_1 : w17.cell? ⟨gb259, 1, none⟩ = some (.int .i64 t251) := (blk_cell BK259.out 1).trans rfl; have hcz18_2 : w17.cell? ⟨gb259, 2, none⟩ = some (.int .i64 t252) := (blk_cell BK259.out 2).trans rfl; have hcz18_3 : w17.cell? ⟨gb259, 3, none⟩ = some (.int .i64 t253) := (blk_cell BK259.out 3).trans rfl; have hcz18_4 : w17.cell? ⟨gb259, 4, none⟩ = some (.int .i64 t254) := (blk_cell BK259.out 4).trans rfl; have hcz18_5 : w17.cell? ⟨gb259, 5, none⟩ = some (.int .i64 t255) := (blk_cell BK259.out 5).trans rfl; have hcz18_6 : w17.cell? ⟨gb259, 6, none⟩ = some (.bool t256) := (blk_cell BK259.out 6).trans rfl; have hcz18_7 : w17.cell? ⟨gb259, 7, none⟩ = some (.int .i64 t257) := (blk_cell BK259.out 7).trans rfl; have hfz18_0 := blk_frozen BK259.out 0; have hfz18_1 := blk_frozen BK259.out 1; have hfz18_2 := blk_frozen BK259.out 2; have hfz18_3 := blk_frozen BK259.out 3; have hfz18_4 := blk_frozen BK259.out 4; have hfz18_5 := blk_frozen BK259.out 5; have hfz18_6 := blk_frozen BK259.out 6; have hfz18_7 := blk_frozen BK259.out 7) | ((with_reducible refine gate_callee (f := 26) rfl ?_); refine goesL_ (some 27) rfl rfl Try.func26 (by kernel_rfl) rfl #[.agg (zq10_c t250 t251 t252 t253 t254 t255 t256 t257), .int .i64 t258] rfl (by (try simp only [List.map_toArray, List.map_cons, List.map_nil]); first | done | rfl | (simp only [List.length_drop, List.length_take]; rfl)) ?_; (with_reducible refine (spec_Shifted.calls k t250 t251 t252 t253 t254 t255 t256 t257 t258 t270 t271 t272 t273 t274 t275 t276 t277 t278 _ A6.out).mono ?_); rintro e w19 ⟨rfl, hb⟩; refine ⟨_, rfl, ?_⟩; have n0_ := Aside0.mk (blk_below (g := gb259) (o := .cells (zq10_c t250 t251 t252 t253 t254 t255 t256 t257) 29 (0, 0)) (by (with_reducible repeat (first | refine blk_drewN ?_ _ | refine blk_drew ?_ | refine blk_alloc ?_ _)); exact BK259.out) hb); have n1_ := Aside0.mk (blk_below (g := gb269) (o := .cells (zq10_c t260 t261 t262 t263 t264 t265 t266 t267) 29 (0, 0)) (by (with_reducible repeat (first | refine blk_drewN ?_ _ | refine blk_drew ?_ | refine blk_alloc ?_ _)); exact BK269.out) hb); have n2_ := Aside0.mk (below_step (by repeat (first | (with_reducible first | exact HB.out | apply below_alloc | apply pw_below_drewN | apply below_drew1 | refine below_set ?_ GE259.out | refine below_set ?_ GE269.out) | exact HB.out)) hb); clear BK259; clear BK269; clear HB; have BK259 := n0_; have BK269 := n1_; have HB := n2_; clear n0_ n1_ n2_; (try clear hb); (try clear hb2); (try clear hk); (try clear hi)) | ((with_reducible refine gate_dst (N := 7) rfl ?_); refine box_event ?hg (N := 7) ?hd (cs := #[.int .i64 0, .int .i64 0, .int .i64 0, .int .i64 0, .int .i64 0, .int .i64 0, .bool false, .int .i64 0]) (t := 29) ?hr ?_; (case hd => rfl); (case hg => rfl); (case hr => first | (go_simp; done) | (go_simp; rfl)); intro gb279 hg w20 hbox hb; have n0_ := Aside0.mk (blk_below (g := gb259) (o := .cells (zq10_c t250 t251 t252 t253 t254 t255 t256 t257) 29 (0, 0)) (by (with_reducible repeat (first | refine blk_drewN ?_ _ | refine blk_drew ?_ | refine blk_alloc ?_ _)); exact BK259.out) hb); have n1_ := Aside0.mk (blk_below (g := gb269) (o := .cells (zq10_c t260 t261 t262 t263 t264 t265 t266 t267) 29 (0, 0)) (by (with_reducible repeat (first | refine blk_drewN ?_ _ | refine blk_drew ?_ | refine blk_alloc ?_ _)); exact BK269.out) hb); have n2_ := Aside0.mk (below_step (by repeat (first | (with_reducible first | exact HB.out | apply below_alloc | apply pw_below_drewN | apply below_drew1 | refine below_set ?_ GE259.out | refine below_set ?_ GE269.out) | exact HB.out)) hb); have n3_ := Aside0.mk (hbox); have n4_ := Aside0.mk ((by rw [hg]; exact (below_size (by repeat (first | (with_reducible first | exact HB.out | apply below_alloc | apply pw_below_drewN | apply below_drew1 | refine below_set ?_ GE259.out | refine below_set ?_ GE269.out) | exact HB.out))) : w.heap.size ≤ gb279)); have n5_ := Aside0.mk ((by rw [hg]; exact (below_size (by repeat (first | (with_reducible first | exact HB.out | apply below_alloc | apply pw_below_drewN | apply below_drew1 | refine below_set ?_ GE259.out | refine below_set ?_ GE269.out) | exact HB.out))) : w.heap.size ≤ gb279)); have n6_ := Aside0.mk ((by rw [hg]; exact Nat.ne_of_lt (blk_lt (g := gb259) (o := .cells (zq10_c t250 t251 t252 t253 t254 t255 t256 t257) 29 (0, 0)) (by (with_reducible repeat (first | refine blk_drewN ?_ _ | refine blk_drew ?_ | refine blk_alloc ?_ _)); exact BK259.out)) : gb259 ≠ gb279)); have n7_ := Aside0.mk ((by rw [hg]; exact Nat.ne_of_gt (blk_lt (g := gb259) (o := .cells (zq10_c t250 t251 t252 t253 t254 t255 t256 t257) 29 (0, 0)) (by (with_reducible repeat (first | refine blk_drewN ?_ _ | refine blk_drew ?_ | refine blk_alloc ?_ _)); exact BK259.out)) : gb279 ≠ gb259)); have n8_ := Aside0.mk ((by rw [hg]; exact Nat.ne_of_lt (blk_lt (g := gb269) (o := .cells (zq10_c t260 t261 t262 t263 t264 t265 t266 t267) 29 (0, 0)) (by (with_reducible repeat (first | refine blk_drewN ?_ _ | refine blk_drew ?_ | refine blk_alloc ?_ _)); exact BK269.out)) : gb269 ≠ gb279)); have n9_ := Aside0.mk ((by rw [hg]; exact Nat.ne_of_gt (blk_lt (g := gb269) (o := .cells (zq10_c t260 t261 t262 t263 t264 t265 t266 t267) 29 (0, 0)) (by (with_reducible repeat (first | refine blk_drewN ?_ _ | refine blk_drew ?_ | refine blk_alloc ?_ _)); exact BK269.out)) : gb279 ≠ gb269)); clear BK259; clear BK269; clear HB; have BK259 := n0_; have BK269 := n1_; have HB := n2_; have BK279 := n3_; have GW279 := n4_; have GE279 := n5_; have NB259_279 := n6_; have NB279_259 := n7_; have NB269_279 := n8_; have NB279_269 := n9_; clear n0_ n1_ n2_ n3_ n4_ n5_ n6_ n7_ n8_ n9_; clear hb hbox hg; have hnb21 := NB279_259.out; have hnc21 := NB259_279.out; have hnb22 := NB279_269.out; have hnc22 := NB269_279.out; have hcz23_0 : w20.cell? ⟨gb279, 0, none⟩ = some (.int .i64 0) := (blk_cell BK279.out 0).trans rfl; have hcz23_1 : w20.cell? ⟨gb279, 1, none⟩ = some (.int .i64 0) := (blk_cell BK279.out 1).trans rfl; have hcz23_2 : w20.cell? ⟨gb279, 2, none⟩ = some (.int .i64 0) := (blk_cell BK279.out 2).trans rfl; have hcz23_3 : w20.cell? ⟨gb279, 3, none⟩ = some (.int .i64 0) := (blk_cell BK279.out 3).trans rfl; have hcz23_4 : w20.cell? ⟨gb279, 4, none⟩ = some (.int .i64 0) := (blk_cell BK279.out 4).trans rfl; have hcz23_5 : w20.cell? ⟨gb279, 5, none⟩ = some (.int .i64 0) := (blk_cell BK279.out 5).trans rfl; have hcz23_6 : w20.cell? ⟨gb279, 6, none⟩ = some (.bool false) := (blk_cell BK279.out 6).trans rfl; have hcz23_7 : w20.cell? ⟨gb279, 7, none⟩ = some (.int .i64 0) := (blk_cell BK279.out 7).trans rfl; have hfz23_0 := blk_frozen BK279.out 0; have hfz23_1 := blk_frozen BK279.out 1; have hfz23_2 := blk_frozen BK279.out 2; have hfz23_3 := blk_frozen BK279.out 3; have hfz23_4 := blk_frozen BK279.out 4; have hfz23_5 := blk_frozen BK279.out 5; have hfz23_6 := blk_frozen BK279.out 6; have hfz23_7 := blk_frozen BK279.out 7) | ((with_reducible refine gate_store (t := 29) (p := 7) rfl ?_); refine store_event (t := 29) (p := 7) (v := ?vo_w24) (w1 := ((((((((w20.setCell ⟨gb279, 0, none⟩ (.int .i64 t270)).setCell ⟨gb279, 1, none⟩ (.int .i64 t271)).setCell ⟨gb279, 2, none⟩ (.int .i64 t272)).setCell ⟨gb279, 3, none⟩ (.int .i64 t273)).setCell ⟨gb279, 4, none⟩ (.int .i64 t274)).setCell ⟨gb279, 5, none⟩ (.int .i64 t275)).setCell ⟨gb279, 6, none⟩ (.bool t276)).setCell ⟨gb279, 7, none⟩ (.int .i64 t277))) ?hg ?ho ?hn ?hr ?_; (case ho => rfl); (case hg => rfl); (case hn => rfl); (case hr => first | (go_simp; done) | (go_simp; rfl)); intro w24 hw; have n0_ : Aside0 (w24.heap[gb259]? = some (.cells (zq10_c t250 t251 t252 t253 t254 t255 t256 t257) 29 (0, 0))) := ⟨(by rw [hw]; exact (by (with_reducible repeat (first | refine blk_drewN ?_ _ | refine blk_drew ?_ | refine blk_alloc ?_ _ | refine blk_far ?_ NB259_279.out _)); (with_reducible repeat (first | refine blk_drewN ?_ _ | refine blk_drew ?_ | refine blk_alloc ?_ _)); exact BK259.out))⟩; have n1_ : Aside0 (w24.heap[gb269]? = some (.cells (zq10_c t260 t261 t262 t263 t264 t265 t266 t267) 29 (0, 0))) := ⟨(by rw [hw]; exact (by (with_reducible repeat (first | refine blk_drewN ?_ _ | refine blk_drew ?_ | refine blk_alloc ?_ _ | refine blk_far ?_ NB269_279.out _)); (with_reducible repeat (first | refine blk_drewN ?_ _ | refine blk_drew ?_ | refine blk_alloc ?_ _)); exact BK269.out))⟩; have n2_ : Aside0 (w24.heap[gb279]? = some (.cells (zq10_c t270 t271 t272 t273 t274 t275 t276 t277) 29 (0, 0))) := ⟨(by rw [hw]; exact (by (with_reducible repeat (first | refine blk_drewN ?_ _ | refine blk_drew ?_ | refine blk_alloc ?_ _)); refine zq10_put8 (cs := #[.int .i64 0, .int .i64 0, .int .i64 0, .int .i64 0, .int .i64 0, .int .i64 0, .bool false, .int .i64 0]) ?_ rfl; (with_reducible repeat (first | refine blk_drewN ?_ _ | refine blk_drew ?_ | refine blk_alloc ?_ _)); exact BK279.out))⟩; have n3_ : Aside0 (Below w.heap.size w w24) := ⟨(by rw [hw]; exact (by repeat (first | (with_reducible first | exact HB.out | apply below_alloc | apply pw_below_drewN | apply below_drew1 | refine below_set ?_ GE259.out | refine below_set ?_ GE269.out | refine below_set ?_ GE279.out) | exact HB.out)))⟩; clear hw; clear BK259; clear BK269; clear BK279; clear HB; have BK259 := n0_; have BK269 := n1_; have BK279 := n2_; have HB := n3_; clear n0_ n1_ n2_ n3_))
  (try simp only [Act.put, List.setIfInBounds_toArray, List.set_cons_zero, List.set_cons_succ])
  go_cut [41] (fun v41 wc => ∃ (kq : Nat) (x41_6 : Bool), v41 = .bool x41_6 ∧ Aside0 (laws_FnShifted.j0 kq t258 t268 t278 x41_6 t250 t251 t252 t253 t254 t255 t256 t257 t260 t261 t262 t263 t264 t265 t266 t267 t270 t271 t272 t273 t274 t275 t276 t277 = some r) ∧ Aside0 (kq ≤ k) ∧ Aside0 (wc.heap[gb259]? = some (.cells (zq10_c t250 t251 t252 t253 t254 t255 t256 t257) 29 (0, 0))) ∧ Aside0 (wc.heap[gb269]? = some (.cells (zq10_c t260 t261 t262 t263 t264 t265 t266 t267) 29 (0, 0))) ∧ Aside0 (wc.heap[gb279]? = some (.cells (zq10_c t270 t271 t272 t273 t274 t275 t276 t277) 29 (0, 0))) ∧ Aside0 (Below w.heap.size w wc))
  case first =>
   have H := HC7.out
   clear HC7
   by_cases c25 : (!(t260 == t270) || (!(t261 == t271) || (!(t262 == t272) || (!(t263 == t273) || (!(t264 == t274) || (!(t265 == t275) || (!(t266 == t276) || (!(t267 == t277))))))))) = true
   ·rw [if_pos c25] at H
    have c25b0 : (!(t260 == t270) || (!(t261 == t271) || (!(t262 == t272) || (!(t263 == t273) || (!(t264 == t274) || (!(t265 == t275) || (!(t266 == t276) || (!(t267 == t277))))))))) = true := c25
    clear c25
    (first | rw [c25b0] | (simp only [i64_w, i32_w]; rw [c25b0]) | skip)
    have H' := Aside0.mk H
    clear H
    have hnb26 := NB269_259.out
    have hnc26 := NB259_269.out
    have hnb27 := NB269_279.out
    have hnc27 := NB279_269.out
    have hcz28_0 : w24.cell? ⟨gb269, 0, none⟩ = some (.int .i64 t260) := (blk_cell BK269.out 0).trans rfl
    have hcz28_1 : w24.cell? ⟨gb269, 1, none⟩ = some (.int .i64 t261) := (blk_cell BK269.out 1).trans rfl
    have hcz28_2 : w24.cell? ⟨gb269, 2, none⟩ = some (.int .i64 t262) := (blk_cell BK269.out 2).trans rfl
    have hcz28_3 : w24.cell? ⟨gb269, 3, none⟩ = some (.int .i64 t263) := (blk_cell BK269.out 3).trans rfl
    have hcz28_4 : w24.cell? ⟨gb269, 4, none⟩ = some (.int .i64 t264) := (blk_cell BK269.out 4).trans rfl
    have hcz28_5 : w24.cell? ⟨gb269, 5, none⟩ = some (.int .i64 t265) := (blk_cell BK269.out 5).trans rfl
    have hcz28_6 : w24.cell? ⟨gb269, 6, none⟩ = some (.bool t266) := (blk_cell BK269.out 6).trans rfl
    have hcz28_7 : w24.cell? ⟨gb269, 7, none⟩ = some (.int .i64 t267) := (blk_cell BK269.out 7).trans rfl
    have hfz28_0 := blk_frozen BK269.out 0
    have hfz28_1 := blk_frozen BK269.out 1
    have hfz28_2 := blk_frozen BK269.out 2
    have hfz28_3 := blk_frozen BK269.out 3
    have hfz28_4 := blk_frozen BK269.out 4
    have hfz28_5 := blk_frozen BK269.out 5
    have hfz28_6 := blk_frozen BK269.out 6
    have hfz28_7 := blk_frozen BK269.out 7
    have hnb29 := NB279_259.out
    have hnc29 := NB259_279.out
    have hcz30_0 : w24.cell? ⟨gb279, 0, none⟩ = some (.int .i64 t270) := (blk_cell BK279.out 0).trans rfl
    have hcz30_1 : w24.cell? ⟨gb279, 1, none⟩ = some (.int .i64 t271) := (blk_cell BK279.out 1).trans rfl
    have hcz30_2 : w24.cell? ⟨gb279, 2, none⟩ = some (.int .i64 t272) := (blk_cell BK279.out 2).trans rfl
    have hcz30_3 : w24.cell? ⟨gb279, 3, none⟩ = some (.int .i64 t273) := (blk_cell BK279.out 3).trans rfl
    have hcz30_4 : w24.cell? ⟨gb279, 4, none⟩ = some (.int .i64 t274) := (blk_cell BK279.out 4).trans rfl
    have hcz30_5 : w24.cell? ⟨gb279, 5, none⟩ = some (.int .i64 t275) := (blk_cell BK279.out 5).trans rfl
    have hcz30_6 : w24.cell? ⟨gb279, 6, none⟩ = some (.bool t276) := (blk_cell BK279.out 6).trans rfl
    have hcz30_7 : w24.cell? ⟨gb279, 7, none⟩ = some (.int .i64 t277) := (blk_cell BK279.out 7).trans rfl
    have hfz30_0 := blk_frozen BK279.out 0
    have hfz30_1 := blk_frozen BK279.out 1
    have hfz30_2 := blk_frozen BK279.out 2
    have hfz30_3 := blk_frozen BK279.out 3
    have hfz30_4 := blk_frozen BK279.out 4
    have hfz30_5 := blk_frozen BK279.out 5
    have hfz30_6 := blk_frozen BK279.out 6
    have hfz30_7 := blk_frozen BK279.out 7
    go_wp2
    go_meet
    case rel => exact ⟨_, (true), (by first | rfl | (simp; done) | (simp [*]; done)), H', ⟨by first | omega | exact Nat.le_refl _⟩, ⟨by (with_reducible repeat (first | refine blk_drewN ?_ _ | refine blk_drew ?_ | refine blk_alloc ?_ _)); exact BK259.out⟩, ⟨by (with_reducible repeat (first | refine blk_drewN ?_ _ | refine blk_drew ?_ | refine blk_alloc ?_ _)); exact BK269.out⟩, ⟨by (with_reducible repeat (first | refine blk_drewN ?_ _ | refine blk_drew ?_ | refine blk_alloc ?_ _)); exact BK279.out⟩, ⟨by repeat (first | (with_reducible first | exact HB.out | apply below_alloc | apply pw_below_drewN | apply below_drew1 | refine below_set ?_ GE259.out | refine below_set ?_ GE269.out | refine below_set ?_ GE279.out) | exact HB.out)⟩⟩
   ·rw [if_neg c25] at H
    have c25b0 : (!(t260 == t270) || (!(t261 == t271) || (!(t262 == t272) || (!(t263 == t273) || (!(t264 == t274) || (!(t265 == t275) || (!(t266 == t276) || (!(t267 == t277))))))))) = false := by simpa using c25
    clear c25
    (first | rw [c25b0] | (simp only [i64_w, i32_w]; rw [c25b0]) | skip)
    by_cases c31 : (t268 != t278) = true
    ·rw [if_pos c31] at H
     have c31b0 : (t268 != t278) = true := c31
     (try (have c31b1 : decide (t268 = t278) = false := by simpa using c31))
     (try (have c31b2 : (t268 == t278) = false := by simpa using c31))
     (try (have c31b3 : ¬ (t268 = t278) := by simpa using c31))
     clear c31
     have H' := Aside0.mk H
     clear H
     have hnb32 := NB269_259.out
     have hnc32 := NB259_269.out
     have hnb33 := NB269_279.out
     have hnc33 := NB279_269.out
     have hcz34_0 : w24.cell? ⟨gb269, 0, none⟩ = some (.int .i64 t260) := (blk_cell BK269.out 0).trans rfl
     have hcz34_1 : w24.cell? ⟨gb269, 1, none⟩ = some (.int .i64 t261) := (blk_cell BK269.out 1).trans rfl
     have hcz34_2 : w24.cell? ⟨gb269, 2, none⟩ = some (.int .i64 t262) := (blk_cell BK269.out 2).trans rfl
     have hcz34_3 : w24.cell? ⟨gb269, 3, none⟩ = some (.int .i64 t263) := (blk_cell BK269.out 3).trans rfl
     have hcz34_4 : w24.cell? ⟨gb269, 4, none⟩ = some (.int .i64 t264) := (blk_cell BK269.out 4).trans rfl
     have hcz34_5 : w24.cell? ⟨gb269, 5, none⟩ = some (.int .i64 t265) := (blk_cell BK269.out 5).trans rfl
     have hcz34_6 : w24.cell? ⟨gb269, 6, none⟩ = some (.bool t266) := (blk_cell BK269.out 6).trans rfl
     have hcz34_7 : w24.cell? ⟨gb269, 7, none⟩ = some (.int .i64 t267) := (blk_cell BK269.out 7).trans rfl
     have hfz34_0 := blk_frozen BK269.out 0
     have hfz34_1 := blk_frozen BK269.out 1
     have hfz34_2 := blk_frozen BK269.out 2
     have hfz34_3 := blk_frozen BK269.out 3
     have hfz34_4 := blk_frozen BK269.out 4
     have hfz34_5 := blk_frozen BK269.out 5
     have hfz34_6 := blk_frozen BK269.out 6
     have hfz34_7 := blk_frozen BK269.out 7
     have hnb35 := NB279_259.out
     have hnc35 := NB259_279.out
     have hcz36_0 : w24.cell? ⟨gb279, 0, none⟩ = some (.int .i64 t270) := (blk_cell BK279.out 0).trans rfl
     have hcz36_1 : w24.cell? ⟨gb279, 1, none⟩ = some (.int .i64 t271) := (blk_cell BK279.out 1).trans rfl
     have hcz36_2 : w24.cell? ⟨gb279, 2, none⟩ = some (.int .i64 t272) := (blk_cell BK279.out 2).trans rfl
     have hcz36_3 : w24.cell? ⟨gb279, 3, none⟩ = some (.int .i64 t273) := (blk_cell BK279.out 3).trans rfl
     have hcz36_4 : w24.cell? ⟨gb279, 4, none⟩ = some (.int .i64 t274) := (blk_cell BK279.out 4).trans rfl
     have hcz36_5 : w24.cell? ⟨gb279, 5, none⟩ = some (.int .i64 t275) := (blk_cell BK279.out 5).trans rfl
     have hcz36_6 : w24.cell? ⟨gb279, 6, none⟩ = some (.bool t276) := (blk_cell BK279.out 6).trans rfl
     have hcz36_7 : w24.cell? ⟨gb279, 7, none⟩ = some (.int .i64 t277) := (blk_cell BK279.out 7).trans rfl
     have hfz36_0 := blk_frozen BK279.out 0
     have hfz36_1 := blk_frozen BK279.out 1
     have hfz36_2 := blk_frozen BK279.out 2
     have hfz36_3 := blk_frozen BK279.out 3
     have hfz36_4 := blk_frozen BK279.out 4
     have hfz36_5 := blk_frozen BK279.out 5
     have hfz36_6 := blk_frozen BK279.out 6
     have hfz36_7 := blk_frozen BK279.out 7
     go_wp2
     go_meet
     case rel => exact ⟨_, (true), (by first | rfl | (simp; done) | (simp [*]; done)), H', ⟨by first | omega | exact Nat.le_refl _⟩, ⟨by (with_reducible repeat (first | refine blk_drewN ?_ _ | refine blk_drew ?_ | refine blk_alloc ?_ _)); exact BK259.out⟩, ⟨by (with_reducible repeat (first | refine blk_drewN ?_ _ | refine blk_drew ?_ | refine blk_alloc ?_ _)); exact BK269.out⟩, ⟨by (with_reducible repeat (first | refine blk_drewN ?_ _ | refine blk_drew ?_ | refine blk_alloc ?_ _)); exact BK279.out⟩, ⟨by repeat (first | (with_reducible first | exact HB.out | apply below_alloc | apply pw_below_drewN | apply below_drew1 | refine below_set ?_ GE259.out | refine below_set ?_ GE269.out | refine below_set ?_ GE279.out) | exact HB.out)⟩⟩
    ·rw [if_neg c31] at H
     have c31b0 : (t268 != t278) = false := by simpa using c31
     (try (have c31b1 : decide (t268 = t278) = true := by simpa using c31))
     (try (have c31b2 : (t268 == t278) = true := by simpa using c31))
     clear c31
     have H' := Aside0.mk H
     clear H
     have hnb37 := NB269_259.out
     have hnc37 := NB259_269.out
     have hnb38 := NB269_279.out
     have hnc38 := NB279_269.out
     have hcz39_0 : w24.cell? ⟨gb269, 0, none⟩ = some (.int .i64 t260) := (blk_cell BK269.out 0).trans rfl
     have hcz39_1 : w24.cell? ⟨gb269, 1, none⟩ = some (.int .i64 t261) := (blk_cell BK269.out 1).trans rfl
     have hcz39_2 : w24.cell? ⟨gb269, 2, none⟩ = some (.int .i64 t262) := (blk_cell BK269.out 2).trans rfl
     have hcz39_3 : w24.cell? ⟨gb269, 3, none⟩ = some (.int .i64 t263) := (blk_cell BK269.out 3).trans rfl
     have hcz39_4 : w24.cell? ⟨gb269, 4, none⟩ = some (.int .i64 t264) := (blk_cell BK269.out 4).trans rfl
     have hcz39_5 : w24.cell? ⟨gb269, 5, none⟩ = some (.int .i64 t265) := (blk_cell BK269.out 5).trans rfl
     have hcz39_6 : w24.cell? ⟨gb269, 6, none⟩ = some (.bool t266) := (blk_cell BK269.out 6).trans rfl
     have hcz39_7 : w24.cell? ⟨gb269, 7, none⟩ = some (.int .i64 t267) := (blk_cell BK269.out 7).trans rfl
     have hfz39_0 := blk_frozen BK269.out 0
     have hfz39_1 := blk_frozen BK269.out 1
     have hfz39_2 := blk_frozen BK269.out 2
     have hfz39_3 := blk_frozen BK269.out 3
     have hfz39_4 := blk_frozen BK269.out 4
     have hfz39_5 := blk_frozen BK269.out 5
     have hfz39_6 := blk_frozen BK269.out 6
     have hfz39_7 := blk_frozen BK269.out 7
     have hnb40 := NB279_259.out
     have hnc40 := NB259_279.out
     have hcz41_0 : w24.cell? ⟨gb279, 0, none⟩ = some (.int .i64 t270) := (blk_cell BK279.out 0).trans rfl
     have hcz41_1 : w24.cell? ⟨gb279, 1, none⟩ = some (.int .i64 t271) := (blk_cell BK279.out 1).trans rfl
     have hcz41_2 : w24.cell? ⟨gb279, 2, none⟩ = some (.int .i64 t272) := (blk_cell BK279.out 2).trans rfl
     have hcz41_3 : w24.cell? ⟨gb279, 3, none⟩ = some (.int .i64 t273) := (blk_cell BK279.out 3).trans rfl
     have hcz41_4 : w24.cell? ⟨gb279, 4, none⟩ = some (.int .i64 t274) := (blk_cell BK279.out 4).trans rfl
     have hcz41_5 : w24.cell? ⟨gb279, 5, none⟩ = some (.int .i64 t275) := (blk_cell BK279.out 5).trans rfl
     have hcz41_6 : w24.cell? ⟨gb279, 6, none⟩ = some (.bool t276) := (blk_cell BK279.out 6).trans rfl
     have hcz41_7 : w24.cell? ⟨gb279, 7, none⟩ = some (.int .i64 t277) := (blk_cell BK279.out 7).trans rfl
     have hfz41_0 := blk_frozen BK279.out 0
     have hfz41_1 := blk_frozen BK279.out 1
     have hfz41_2 := blk_frozen BK279.out 2
     have hfz41_3 := blk_frozen BK279.out 3
     have hfz41_4 := blk_frozen BK279.out 4
     have hfz41_5 := blk_frozen BK279.out 5
     have hfz41_6 := blk_frozen BK279.out 6
     have hfz41_7 := blk_frozen BK279.out 7
     go_wp2
     go_meet
     case rel => exact ⟨_, (!t268), (by first | rfl | (simp; done) | (simp [*]; done)), H', ⟨by first | omega | exact Nat.le_refl _⟩, ⟨by (with_reducible repeat (first | refine blk_drewN ?_ _ | refine blk_drew ?_ | refine blk_alloc ?_ _)); exact BK259.out⟩, ⟨by (with_reducible repeat (first | refine blk_drewN ?_ _ | refine blk_drew ?_ | refine blk_alloc ?_ _)); exact BK269.out⟩, ⟨by (with_reducible repeat (first | refine blk_drewN ?_ _ | refine blk_drew ?_ | refine blk_alloc ?_ _)); exact BK279.out⟩, ⟨by repeat (first | (with_reducible first | exact HB.out | apply below_alloc | apply pw_below_drewN | apply below_drew1 | refine below_set ?_ GE259.out | refine below_set ?_ GE269.out | refine below_set ?_ GE279.out) | exact HB.out)⟩⟩
  case rest =>
   clear HC7
   try clear c1
   try clear c2
   try clear p2
   try clear c3
   try clear c4
   try clear c12
   try clear c15
   try clear c21
   try clear c22
   try clear c24
   try clear c25
   try clear c25b0
   try clear c26
   try clear c27
   try clear c29
   try clear c30
   try clear c31
   try clear c31b0
   try clear c31b1
   try clear c31b2
   try clear c32
   try clear c33
   try clear c35
   try clear c37
   try clear c38
   try clear c40
   try clear hcz10_0
   try clear hcz10_1
   try clear hcz10_2
   try clear hcz10_3
   try clear hcz10_4
   try clear hcz10_5
   try clear hcz10_6
   try clear hcz10_7
   try clear hcz12_0
   try clear hcz12_1
   try clear hcz12_2
   try clear hcz12_3
   try clear hcz12_4
   try clear hcz12_5
   try clear hcz12_6
   try clear hcz12_7
   try clear hcz16_0
   try clear hcz16_1
   try clear hcz16_2
   try clear hcz16_3
   try clear hcz16_4
   try clear hcz16_5
   try clear hcz16_6
   try clear hcz16_7
   try clear hcz18_0
   try clear hcz18_1
   try clear hcz18_2
   try clear hcz18_3
   try clear hcz18_4
   try clear hcz18_5
   try clear hcz18_6
   try clear hcz18_7
   try clear hcz23_0
   try clear hcz23_1
   try clear hcz23_2
   try clear hcz23_3
   try clear hcz23_4
   try clear hcz23_5
   try clear hcz23_6
   try clear hcz23_7
   try clear hcz28_0
   try clear hcz28_1
   try clear hcz28_2
   try clear hcz28_3
   try clear hcz28_4
   try clear hcz28_5
   try clear hcz28_6
   try clear hcz28_7
   try clear hcz30_0
   try clear hcz30_1
   try clear hcz30_2
   try clear hcz30_3
   try clear hcz30_4
   try clear hcz30_5
   try clear hcz30_6
   try clear hcz30_7
   try clear hcz34_0
   try clear hcz34_1
   try clear hcz34_2
   try clear hcz34_3
   try clear hcz34_4
   try clear hcz34_5
   try clear hcz34_6
   try clear hcz34_7
   try clear hcz36_0
   try clear hcz36_1
   try clear hcz36_2
   try clear hcz36_3
   try clear hcz36_4
   try clear hcz36_5
   try clear hcz36_6
   try clear hcz36_7
   try clear hcz39_0
   try clear hcz39_1
   try clear hcz39_2
   try clear hcz39_3
   try clear hcz39_4
   try clear hcz39_5
   try clear hcz39_6
   try clear hcz39_7
   try clear hcz41_0
   try clear hcz41_1
   try clear hcz41_2
   try clear hcz41_3
   try clear hcz41_4
   try clear hcz41_5
   try clear hcz41_6
   try clear hcz41_7
   try clear hfz10_0
   try clear hfz10_1
   try clear hfz10_2
   try clear hfz10_3
   try clear hfz10_4
   try clear hfz10_5
   try clear hfz10_6
   try clear hfz10_7
   try clear hfz12_0
   try clear hfz12_1
   try clear hfz12_2
   try clear hfz12_3
   try clear hfz12_4
   try clear hfz12_5
   try clear hfz12_6
   try clear hfz12_7
   try clear hfz16_0
   try clear hfz16_1
   try clear hfz16_2
   try clear hfz16_3
   try clear hfz16_4
   try clear hfz16_5
   try clear hfz16_6
   try clear hfz16_7
   try clear hfz18_0
   try clear hfz18_1
   try clear hfz18_2
   try clear hfz18_3
   try clear hfz18_4
   try clear hfz18_5
   try clear hfz18_6
   try clear hfz18_7
   try clear hfz23_0
   try clear hfz23_1
   try clear hfz23_2
   try clear hfz23_3
   try clear hfz23_4
   try clear hfz23_5
   try clear hfz23_6
   try clear hfz23_7
   try clear hfz28_0
   try clear hfz28_1
   try clear hfz28_2
   try clear hfz28_3
   try clear hfz28_4
   try clear hfz28_5
   try clear hfz28_6
   try clear hfz28_7
   try clear hfz30_0
   try clear hfz30_1
   try clear hfz30_2
   try clear hfz30_3
   try clear hfz30_4
   try clear hfz30_5
   try clear hfz30_6
   try clear hfz30_7
   try clear hfz34_0
   try clear hfz34_1
   try clear hfz34_2
   try clear hfz34_3
   try clear hfz34_4
   try clear hfz34_5
   try clear hfz34_6
   try clear hfz34_7
   try clear hfz36_0
   try clear hfz36_1
   try clear hfz36_2
   try clear hfz36_3
   try clear hfz36_4
   try clear hfz36_5
   try clear hfz36_6
   try clear hfz36_7
   try clear hfz39_0
   try clear hfz39_1
   try clear hfz39_2
   try clear hfz39_3
   try clear hfz39_4
   try clear hfz39_5
   try clear hfz39_6
   try clear hfz39_7
   try clear hfz41_0
   try clear hfz41_1
   try clear hfz41_2
   try clear hfz41_3
   try clear hfz41_4
   try clear hfz41_5
   try clear hfz41_6
   try clear hfz41_7
   obtain ⟨kq, x41_6, rfl, HA, HJ6, BK259, BK269, BK279, HB⟩ := hcut
   cases kq with
   | zero => exact absurd HA.out (by simp [laws_FnShifted.j0])
   | succ kj6 =>
    have H := HA.out
    clear HA
    simp only [laws_FnShifted.j0] at H
    by_cases c42 : x41_6 = true
    ·subst c42
     have H1 : (if (t260 == t270 && (t261 == t271 && (t262 == t272 && (t263 == t273 && (t264 == t274 && (t265 == t275 && (t266 == t276 && (t267 == t277)))))))) = true then (some (t268 == t278)) else (some false)) = some r := by rw [if_pos rfl] at H; exact H
     clear H
     have H := H1
     clear H1
     by_cases c43 : (t260 == t270 && (t261 == t271 && (t262 == t272 && (t263 == t273 && (t264 == t274 && (t265 == t275 && (t266 == t276 && (t267 == t277)))))))) = true
     ·rw [if_pos c43] at H
      have c43b0 : (t260 == t270 && (t261 == t271 && (t262 == t272 && (t263 == t273 && (t264 == t274 && (t265 == t275 && (t266 == t276 && (t267 == t277)))))))) = true := c43
      (try (have c43b1 : decide (t260 = t270 && (t261 == t271 && (t262 == t272 && (t263 == t273 && (t264 == t274 && (t265 == t275 && (t266 == t276 && (t267 == t277)))))))) = true := by simpa using c43))
      (try (have c43b2 : (t260 == t270 && (t261 == t271 && (t262 == t272 && (t263 == t273 && (t264 == t274 && (t265 == t275 && (t266 == t276 && (t267 == t277)))))))) = true := by simpa using c43))
      clear c43
      obtain rfl := Option.some.inj H
      have hnb44 := NB269_259.out
      have hnc44 := NB259_269.out
      have hnb45 := NB269_279.out
      have hnc45 := NB279_269.out
      have hcz46_0 : wc.cell? ⟨gb269, 0, none⟩ = some (.int .i64 t260) := (blk_cell BK269.out 0).trans rfl
      have hcz46_1 : wc.cell? ⟨gb269, 1, none⟩ = some (.int .i64 t261) := (blk_cell BK269.out 1).trans rfl
      have hcz46_2 : wc.cell? ⟨gb269, 2, none⟩ = some (.int .i64 t262) := (blk_cell BK269.out 2).trans rfl
      have hcz46_3 : wc.cell? ⟨gb269, 3, none⟩ = some (.int .i64 t263) := (blk_cell BK269.out 3).trans rfl
      have hcz46_4 : wc.cell? ⟨gb269, 4, none⟩ = some (.int .i64 t264) := (blk_cell BK269.out 4).trans rfl
      have hcz46_5 : wc.cell? ⟨gb269, 5, none⟩ = some (.int .i64 t265) := (blk_cell BK269.out 5).trans rfl
      have hcz46_6 : wc.cell? ⟨gb269, 6, none⟩ = some (.bool t266) := (blk_cell BK269.out 6).trans rfl
      have hcz46_7 : wc.cell? ⟨gb269, 7, none⟩ = some (.int .i64 t267) := (blk_cell BK269.out 7).trans rfl
      have hfz46_0 := blk_frozen BK269.out 0
      have hfz46_1 := blk_frozen BK269.out 1
      have hfz46_2 := blk_frozen BK269.out 2
      have hfz46_3 := blk_frozen BK269.out 3
      have hfz46_4 := blk_frozen BK269.out 4
      have hfz46_5 := blk_frozen BK269.out 5
      have hfz46_6 := blk_frozen BK269.out 6
      have hfz46_7 := blk_frozen BK269.out 7
      have hnb47 := NB279_259.out
      have hnc47 := NB259_279.out
      have hcz48_0 : wc.cell? ⟨gb279, 0, none⟩ = some (.int .i64 t270) := (blk_cell BK279.out 0).trans rfl
      have hcz48_1 : wc.cell? ⟨gb279, 1, none⟩ = some (.int .i64 t271) := (blk_cell BK279.out 1).trans rfl
      have hcz48_2 : wc.cell? ⟨gb279, 2, none⟩ = some (.int .i64 t272) := (blk_cell BK279.out 2).trans rfl
      have hcz48_3 : wc.cell? ⟨gb279, 3, none⟩ = some (.int .i64 t273) := (blk_cell BK279.out 3).trans rfl
      have hcz48_4 : wc.cell? ⟨gb279, 4, none⟩ = some (.int .i64 t274) := (blk_cell BK279.out 4).trans rfl
      have hcz48_5 : wc.cell? ⟨gb279, 5, none⟩ = some (.int .i64 t275) := (blk_cell BK279.out 5).trans rfl
      have hcz48_6 : wc.cell? ⟨gb279, 6, none⟩ = some (.bool t276) := (blk_cell BK279.out 6).trans rfl
      have hcz48_7 : wc.cell? ⟨gb279, 7, none⟩ = some (.int .i64 t277) := (blk_cell BK279.out 7).trans rfl
      have hfz48_0 := blk_frozen BK279.out 0
      have hfz48_1 := blk_frozen BK279.out 1
      have hfz48_2 := blk_frozen BK279.out 2
      have hfz48_3 := blk_frozen BK279.out 3
      have hfz48_4 := blk_frozen BK279.out 4
      have hfz48_5 := blk_frozen BK279.out 5
      have hfz48_6 := blk_frozen BK279.out 6
      have hfz48_7 := blk_frozen BK279.out 7
      go_wp2
      go_ret
      exact ⟨by first | rfl | (simp [*] <;> rfl), by repeat (first | (with_reducible first | exact HB.out | apply below_alloc | apply pw_below_drewN | apply below_drew1 | refine below_set ?_ GE259.out | refine below_set ?_ GE269.out | refine below_set ?_ GE279.out) | exact HB.out)⟩
     ·rw [if_neg c43] at H
      have c43b0 : (t260 == t270 && (t261 == t271 && (t262 == t272 && (t263 == t273 && (t264 == t274 && (t265 == t275 && (t266 == t276 && (t267 == t277)))))))) = false := by simpa using c43
      (try (have c43b1 : decide (t260 = t270 && (t261 == t271 && (t262 == t272 && (t263 == t273 && (t264 == t274 && (t265 == t275 && (t266 == t276 && (t267 == t277)))))))) = false := by simpa using c43))
      (try (have c43b2 : (t260 == t270 && (t261 == t271 && (t262 == t272 && (t263 == t273 && (t264 == t274 && (t265 == t275 && (t266 == t276 && (t267 == t277)))))))) = false := by simpa using c43))
      (try (have c43b3 : ¬ (t260 = t270 && (t261 == t271 && (t262 == t272 && (t263 == t273 && (t264 == t274 && (t265 == t275 && (t266 == t276 && (t267 == t277)))))))) := by simpa using c43))
      clear c43
      obtain rfl := Option.some.inj H
      have hnb49 := NB269_259.out
      have hnc49 := NB259_269.out
      have hnb50 := NB269_279.out
      have hnc50 := NB279_269.out
      have hcz51_0 : wc.cell? ⟨gb269, 0, none⟩ = some (.int .i64 t260) := (blk_cell BK269.out 0).trans rfl
      have hcz51_1 : wc.cell? ⟨gb269, 1, none⟩ = some (.int .i64 t261) := (blk_cell BK269.out 1).trans rfl
      have hcz51_2 : wc.cell? ⟨gb269, 2, none⟩ = some (.int .i64 t262) := (blk_cell BK269.out 2).trans rfl
      have hcz51_3 : wc.cell? ⟨gb269, 3, none⟩ = some (.int .i64 t263) := (blk_cell BK269.out 3).trans rfl
      have hcz51_4 : wc.cell? ⟨gb269, 4, none⟩ = some (.int .i64 t264) := (blk_cell BK269.out 4).trans rfl
      have hcz51_5 : wc.cell? ⟨gb269, 5, none⟩ = some (.int .i64 t265) := (blk_cell BK269.out 5).trans rfl
      have hcz51_6 : wc.cell? ⟨gb269, 6, none⟩ = some (.bool t266) := (blk_cell BK269.out 6).trans rfl
      have hcz51_7 : wc.cell? ⟨gb269, 7, none⟩ = some (.int .i64 t267) := (blk_cell BK269.out 7).trans rfl
      have hfz51_0 := blk_frozen BK269.out 0
      have hfz51_1 := blk_frozen BK269.out 1
      have hfz51_2 := blk_frozen BK269.out 2
      have hfz51_3 := blk_frozen BK269.out 3
      have hfz51_4 := blk_frozen BK269.out 4
      have hfz51_5 := blk_frozen BK269.out 5
      have hfz51_6 := blk_frozen BK269.out 6
      have hfz51_7 := blk_frozen BK269.out 7
      have hnb52 := NB279_259.out
      have hnc52 := NB259_279.out
      have hcz53_0 : wc.cell? ⟨gb279, 0, none⟩ = some (.int .i64 t270) := (blk_cell BK279.out 0).trans rfl
      have hcz53_1 : wc.cell? ⟨gb279, 1, none⟩ = some (.int .i64 t271) := (blk_cell BK279.out 1).trans rfl
      have hcz53_2 : wc.cell? ⟨gb279, 2, none⟩ = some (.int .i64 t272) := (blk_cell BK279.out 2).trans rfl
      have hcz53_3 : wc.cell? ⟨gb279, 3, none⟩ = some (.int .i64 t273) := (blk_cell BK279.out 3).trans rfl
      have hcz53_4 : wc.cell? ⟨gb279, 4, none⟩ = some (.int .i64 t274) := (blk_cell BK279.out 4).trans rfl
      have hcz53_5 : wc.cell? ⟨gb279, 5, none⟩ = some (.int .i64 t275) := (blk_cell BK279.out 5).trans rfl
      have hcz53_6 : wc.cell? ⟨gb279, 6, none⟩ = some (.bool t276) := (blk_cell BK279.out 6).trans rfl
      have hcz53_7 : wc.cell? ⟨gb279, 7, none⟩ = some (.int .i64 t277) := (blk_cell BK279.out 7).trans rfl
      have hfz53_0 := blk_frozen BK279.out 0
      have hfz53_1 := blk_frozen BK279.out 1
      have hfz53_2 := blk_frozen BK279.out 2
      have hfz53_3 := blk_frozen BK279.out 3
      have hfz53_4 := blk_frozen BK279.out 4
      have hfz53_5 := blk_frozen BK279.out 5
      have hfz53_6 := blk_frozen BK279.out 6
      have hfz53_7 := blk_frozen BK279.out 7
      go_wp2
      go_ret
      exact ⟨by first | rfl | (simp [*] <;> rfl), by repeat (first | (with_reducible first | exact HB.out | apply below_alloc | apply pw_below_drewN | apply below_drew1 | refine below_set ?_ GE259.out | refine below_set ?_ GE269.out | refine below_set ?_ GE279.out) | exact HB.out)⟩
    ·replace c42 := Bool.eq_false_iff.mpr c42
     subst c42
     have H1 : ((impl_Shifted.f kj6 t260 t261 t262 t263 t264 t265 t266 t267 t257).bind fun bt280 => ((impl_DateOk.f t260 t261 t262 t263 t264 t265 t266 t267).bind fun t290 => (if t290 = true then (if t267 = t258 then ((impl_SecondsOf.f kj6 t260 t261 t262 t263 t264 t265 t266 t267).bind fun t291 => ((impl_SecondsOf.f kj6 t250 t251 t252 t253 t254 t255 t256 t257).bind fun t292 => (if t291 = t292 then ((impl_CompareDate.f kj6 t260 t261 t262 t263 t264 t265 t266 t267 t250 t251 t252 t253 t254 t255 t256 t257).bind fun t293 => (if t293 = 0 then (if bt280.2.2.2.2.2.2.2.2 = true then (some (bt280.1 == t250 && (bt280.2.1 == t251 && (bt280.2.2.1 == t252 && (bt280.2.2.2.1 == t253 && (bt280.2.2.2.2.1 == t254 && (bt280.2.2.2.2.2.1 == t255 && (bt280.2.2.2.2.2.2.1 == t256 && (bt280.2.2.2.2.2.2.2.1 == t257))))))))) else (some false)) else (some false))) else (some false)))) else (some false)) else (some false)))) = some r := by rw [if_neg (show ¬ (false = true) by decide)] at H; exact H
     clear H
     have H := H1
     clear H1
     replace H := Option.bind_eq_some_iff.mp H
     obtain ⟨⟨t280, t281, t282, t283, t284, t285, t286, t287, t288⟩, A540, H⟩ := H
     replace H : ((impl_DateOk.f t260 t261 t262 t263 t264 t265 t266 t267).bind fun t290 => (if t290 = true then (if t267 = t258 then ((impl_SecondsOf.f kj6 t260 t261 t262 t263 t264 t265 t266 t267).bind fun t291 => ((impl_SecondsOf.f kj6 t250 t251 t252 t253 t254 t255 t256 t257).bind fun t292 => (if t291 = t292 then ((impl_CompareDate.f kj6 t260 t261 t262 t263 t264 t265 t266 t267 t250 t251 t252 t253 t254 t255 t256 t257).bind fun t293 => (if t293 = 0 then (if t288 = true then (some (t280 == t250 && (t281 == t251 && (t282 == t252 && (t283 == t253 && (t284 == t254 && (t285 == t255 && (t286 == t256 && (t287 == t257))))))))) else (some false)) else (some false))) else (some false)))) else (some false)) else (some false))) = some r := H
     have A54 := Aside0.mk A540
     clear A540
     replace H := Option.bind_eq_some_iff.mp H
     obtain ⟨t290, A550, H⟩ := H
     replace H : (if t290 = true then (if t267 = t258 then ((impl_SecondsOf.f kj6 t260 t261 t262 t263 t264 t265 t266 t267).bind fun t291 => ((impl_SecondsOf.f kj6 t250 t251 t252 t253 t254 t255 t256 t257).bind fun t292 => (if t291 = t292 then ((impl_CompareDate.f kj6 t260 t261 t262 t263 t264 t265 t266 t267 t250 t251 t252 t253 t254 t255 t256 t257).bind fun t293 => (if t293 = 0 then (if t288 = true then (some (t280 == t250 && (t281 == t251 && (t282 == t252 && (t283 == t253 && (t284 == t254 && (t285 == t255 && (t286 == t256 && (t287 == t257))))))))) else (some false)) else (some false))) else (some false)))) else (some false)) else (some false)) = some r := H
     have A55 := Aside0.mk A550
     clear A550
     by_cases c56 : t290 = true
     ·subst c56
      have H1 : (if t267 = t258 then ((impl_SecondsOf.f kj6 t260 t261 t262 t263 t264 t265 t266 t267).bind fun t291 => ((impl_SecondsOf.f kj6 t250 t251 t252 t253 t254 t255 t256 t257).bind fun t292 => (if t291 = t292 then ((impl_CompareDate.f kj6 t260 t261 t262 t263 t264 t265 t266 t267 t250 t251 t252 t253 t254 t255 t256 t257).bind fun t293 => (if t293 = 0 then (if t288 = true then (some (t280 == t250 && (t281 == t251 && (t282 == t252 && (t283 == t253 && (t284 == t254 && (t285 == t255 && (t286 == t256 && (t287 == t257))))))))) else (some false)) else (some false))) else (some false)))) else (some false)) = some r := by rw [if_pos rfl] at H; exact H
      clear H
      have H := H1
      clear H1
      by_cases c57 : t267 = t258
      ·rw [if_pos c57] at H
       have c57b0 : (t267 == t258) = true := beq_iff_eq.mpr c57
       have c57b1 : (t267 != t258) = false := bne_eq_false_iff_eq.mpr c57
       clear c57
       replace H := Option.bind_eq_some_iff.mp H
       obtain ⟨t291, A580, H⟩ := H
       replace H : ((impl_SecondsOf.f kj6 t250 t251 t252 t253 t254 t255 t256 t257).bind fun t292 => (if t291 = t292 then ((impl_CompareDate.f kj6 t260 t261 t262 t263 t264 t265 t266 t267 t250 t251 t252 t253 t254 t255 t256 t257).bind fun t293 => (if t293 = 0 then (if t288 = true then (some (t280 == t250 && (t281 == t251 && (t282 == t252 && (t283 == t253 && (t284 == t254 && (t285 == t255 && (t286 == t256 && (t287 == t257))))))))) else (some false)) else (some false))) else (some false))) = some r := H
       have A58 := Aside0.mk A580
       clear A580
       replace H := Option.bind_eq_some_iff.mp H
       obtain ⟨t292, A590, H⟩ := H
       replace H : (if t291 = t292 then ((impl_CompareDate.f kj6 t260 t261 t262 t263 t264 t265 t266 t267 t250 t251 t252 t253 t254 t255 t256 t257).bind fun t293 => (if t293 = 0 then (if t288 = true then (some (t280 == t250 && (t281 == t251 && (t282 == t252 && (t283 == t253 && (t284 == t254 && (t285 == t255 && (t286 == t256 && (t287 == t257))))))))) else (some false)) else (some false))) else (some false)) = some r := H
       have A59 := Aside0.mk A590
       clear A590
       by_cases c60 : t291 = t292
       ·rw [if_pos c60] at H
        have c60b0 : (t291 == t292) = true := beq_iff_eq.mpr c60
        have c60b1 : (t291 != t292) = false := bne_eq_false_iff_eq.mpr c60
        clear c60
        replace H := Option.bind_eq_some_iff.mp H
        obtain ⟨t293, A610, H⟩ := H
        replace H : (if t293 = 0 then (if t288 = true then (some (t280 == t250 && (t281 == t251 && (t282 == t252 && (t283 == t253 && (t284 == t254 && (t285 == t255 && (t286 == t256 && (t287 == t257))))))))) else (some false)) else (some false)) = some r := H
        have A61 := Aside0.mk A610
        clear A610
        by_cases c62 : t293 = 0
        ·rw [if_pos c62] at H
         have c62b0 : (t293 == 0) = true := beq_iff_eq.mpr c62
         have c62b1 : (t293 != 0) = false := bne_eq_false_iff_eq.mpr c62
         clear c62
         have HS_ := Aside0.mk H
         clear H
         have hnb64 := NB269_259.out
         have hnc64 := NB259_269.out
         have hnb65 := NB269_279.out
         have hnc65 := NB279_269.out
         have hcz66_0 : wc.cell? ⟨gb269, 0, none⟩ = some (.int .i64 t260) := (blk_cell BK269.out 0).trans rfl
         have hcz66_1 : wc.cell? ⟨gb269, 1, none⟩ = some (.int .i64 t261) := (blk_cell BK269.out 1).trans rfl
         have hcz66_2 : wc.cell? ⟨gb269, 2, none⟩ = some (.int .i64 t262) := (blk_cell BK269.out 2).trans rfl
         have hcz66_3 : wc.cell? ⟨gb269, 3, none⟩ = some (.int .i64 t263) := (blk_cell BK269.out 3).trans rfl
         have hcz66_4 : wc.cell? ⟨gb269, 4, none⟩ = some (.int .i64 t264) := (blk_cell BK269.out 4).trans rfl
         have hcz66_5 : wc.cell? ⟨gb269, 5, none⟩ = some (.int .i64 t265) := (blk_cell BK269.out 5).trans rfl
         have hcz66_6 : wc.cell? ⟨gb269, 6, none⟩ = some (.bool t266) := (blk_cell BK269.out 6).trans rfl
         have hcz66_7 : wc.cell? ⟨gb269, 7, none⟩ = some (.int .i64 t267) := (blk_cell BK269.out 7).trans rfl
         have hfz66_0 := blk_frozen BK269.out 0
         have hfz66_1 := blk_frozen BK269.out 1
         have hfz66_2 := blk_frozen BK269.out 2
         have hfz66_3 := blk_frozen BK269.out 3
         have hfz66_4 := blk_frozen BK269.out 4
         have hfz66_5 := blk_frozen BK269.out 5
         have hfz66_6 := blk_frozen BK269.out 6
         have hfz66_7 := blk_frozen BK269.out 7
         have hnb67 := NB259_279.out
         have hnc67 := NB279_259.out
         have hcz68_0 : wc.cell? ⟨gb259, 0, none⟩ = some (.int .i64 t250) := (blk_cell BK259.out 0).trans rfl
         have hcz68_1 : wc.cell? ⟨gb259, 1, none⟩ = some (.int .i64 t251) := (blk_cell BK259.out 1).trans rfl
         have hcz68_2 : wc.cell? ⟨gb259, 2, none⟩ = some (.int .i64 t252) := (blk_cell BK259.out 2).trans rfl
         have hcz68_3 : wc.cell? ⟨gb259, 3, none⟩ = some (.int .i64 t253) := (blk_cell BK259.out 3).trans rfl
         have hcz68_4 : wc.cell? ⟨gb259, 4, none⟩ = some (.int .i64 t254) := (blk_cell BK259.out 4).trans rfl
         have hcz68_5 : wc.cell? ⟨gb259, 5, none⟩ = some (.int .i64 t255) := (blk_cell BK259.out 5).trans rfl
         have hcz68_6 : wc.cell? ⟨gb259, 6, none⟩ = some (.bool t256) := (blk_cell BK259.out 6).trans rfl
         have hcz68_7 : wc.cell? ⟨gb259, 7, none⟩ = some (.int .i64 t257) := (blk_cell BK259.out 7).trans rfl
         have hfz68_0 := blk_frozen BK259.out 0
         have hfz68_1 := blk_frozen BK259.out 1
         have hfz68_2 := blk_frozen BK259.out 2
         have hfz68_3 := blk_frozen BK259.out 3
         have hfz68_4 := blk_frozen BK259.out 4
         have hfz68_5 := blk_frozen BK259.out 5
         have hfz68_6 := blk_frozen BK259.out 6
         have hfz68_7 := blk_frozen BK259.out 7
         try go_upto_region 9 with (first | ((with_reducible refine gate_callee (f := 27) rfl ?_); refine goesL_ (some 54) rfl rfl Try.func27 (by kernel_rfl) rfl #[.agg (zq10_c t260 t261 t262 t263 t264 t265 t266 t267), .int .i64 t257] rfl (by (try simp only [List.map_toArray, List.map_cons, List.map_nil]); first | done | rfl | (simp only [List.length_drop, List.length_take]; rfl)) ?_; (with_reducible refine (impl_Shifted.calls kj6 t260 t261 t262 t263 t264 t265 t266 t267 t257 t280 t281 t282 t283 t284 t285 t286 t287 t288 _ A54.out).mono ?_); rintro e w69 ⟨rfl, hb⟩; refine ⟨_, rfl, ?_⟩; have n0_ := Aside0.mk (blk_below (g := gb259) (o := .cells (zq10_c t250 t251 t252 t253 t254 t255 t256 t257) 29 (0, 0)) (by (with_reducible repeat (first | refine blk_drewN ?_ _ | refine blk_drew ?_ | refine blk_alloc ?_ _)); exact BK259.out) hb); have n1_ := Aside0.mk (blk_below (g := gb269) (o := .cells (zq10_c t260 t261 t262 t263 t264 t265 t266 t267) 29 (0, 0)) (by (with_reducible repeat (first | refine blk_drewN ?_ _ | refine blk_drew ?_ | refine blk_alloc ?_ _)); exact BK269.out) hb); have n2_ := Aside0.mk (blk_below (g := gb279) (o := .cells (zq10_c t270 t271 t272 t273 t274 t275 t276 t277) 29 (0, 0)) (by (with_reducible repeat (first | refine blk_drewN ?_ _ | refine blk_drew ?_ | refine blk_alloc ?_ _)); exact BK279.out) hb); have n3_ := Aside0.mk (below_step (by repeat (first | (with_reducible first | exact HB.out | apply below_alloc | apply pw_below_drewN | apply below_drew1 | refine below_set ?_ GE259.out | refine below_set ?_ GE269.out | refine below_set ?_ GE279.out) | exact HB.out)) hb); clear BK259; clear BK269; clear BK279; clear HB; have BK259 := n0_; have BK269 := n1_; have BK279 := n2_; have HB := n3_; clear n0_ n1_ n2_ n3_; (try clear hb); (try clear hb2); (try clear hk); (try clear hi)) | ((with_reducible refine gate_dst (N := 9) rfl ?_); refine box_event ?hg (N := 9) ?hd (cs := #[.int .i64 0, .int .i64 0, .int .i64 0, .int .i64 0, .int .i64 0, .int .i64 0, .bool false, .int .i64 0]) (t := 29) ?hr ?_; (case hd => rfl); (case hg => rfl); (case hr => first | (go_simp; done) | (go_simp; rfl)); intro gb289 hg w70 hbox hb; have n0_ := Aside0.mk (blk_below (g := gb259) (o := .cells (zq10_c t250 t251 t252 t253 t254 t255 t256 t257) 29 (0, 0)) (by (with_reducible repeat (first | refine blk_drewN ?_ _ | refine blk_drew ?_ | refine blk_alloc ?_ _)); exact BK259.out) hb); have n1_ := Aside0.mk (blk_below (g := gb269) (o := .cells (zq10_c t260 t261 t262 t263 t264 t265 t266 t267) 29 (0, 0)) (by (with_reducible repeat (first | refine blk_drewN ?_ _ | refine blk_drew ?_ | refine blk_alloc ?_ _)); exact BK269.out) hb); have n2_ := Aside0.mk (blk_below (g := gb279) (o := .cells (zq10_c t270 t271 t272 t273 t274 t275 t276 t277) 29 (0, 0)) (by (with_reducible repeat (first | refine blk_drewN ?_ _ | refine blk_drew ?_ | refine blk_alloc ?_ _)); exact BK279.out) hb); have n3_ := Aside0.mk (below_step (by repeat (first | (with_reducible first | exact HB.out | apply below_alloc | apply pw_below_drewN | apply below_drew1 | refine below_set ?_ GE259.out | refine below_set ?_ GE269.out | refine below_set ?_ GE279.out) | exact HB.out)) hb); have n4_ := Aside0.mk (hbox); have n5_ := Aside0.mk ((by rw [hg]; exact (below_size (by repeat (first | (with_reducible first | exact HB.out | apply below_alloc | apply pw_below_drewN | apply below_drew1 | refine below_set ?_ GE259.out | refine below_set ?_ GE269.out | refine below_set ?_ GE279.out) | exact HB.out))) : w.heap.size ≤ gb289)); have n6_ := Aside0.mk ((by rw [hg]; exact (below_size (by repeat (first | (with_reducible first | exact HB.out | apply below_alloc | apply pw_below_drewN | apply below_drew1 | refine below_set ?_ GE259.out | refine below_set ?_ GE269.out | refine below_set ?_ GE279.out) | exact HB.out))) : w.heap.size ≤ gb289)); have n7_ := Aside0.mk ((by rw [hg]; exact Nat.ne_of_lt (blk_lt (g := gb259) (o := .cells (zq10_c t250 t251 t252 t253 t254 t255 t256 t257) 29 (0, 0)) (by (with_reducible repeat (first | refine blk_drewN ?_ _ | refine blk_drew ?_ | refine blk_alloc ?_ _)); exact BK259.out)) : gb259 ≠ gb289)); have n8_ := Aside0.mk ((by rw [hg]; exact Nat.ne_of_gt (blk_lt (g := gb259) (o := .cells (zq10_c t250 t251 t252 t253 t254 t255 t256 t257) 29 (0, 0)) (by (with_reducible repeat (first | refine blk_drewN ?_ _ | refine blk_drew ?_ | refine blk_alloc ?_ _)); exact BK259.out)) : gb289 ≠ gb259)); have n9_ := Aside0.mk ((by rw [hg]; exact Nat.ne_of_lt (blk_lt (g := gb269) (o := .cells (zq10_c t260 t261 t262 t263 t264 t265 t266 t267) 29 (0, 0)) (by (with_reducible repeat (first | refine blk_drewN ?_ _ | refine blk_drew ?_ | refine blk_alloc ?_ _)); exact BK269.out)) : gb269 ≠ gb289)); have n10_ := Aside0.mk ((by rw [hg]; exact Nat.ne_of_gt (blk_lt (g := gb269) (o := .cells (zq10_c t260 t261 t262 t263 t264 t265 t266 t267) 29 (0, 0)) (by (with_reducible repeat (first | refine blk_drewN ?_ _ | refine blk_drew ?_ | refine blk_alloc ?_ _)); exact BK269.out)) : gb289 ≠ gb269)); have n11_ := Aside0.mk ((by rw [hg]; exact Nat.ne_of_lt (blk_lt (g := gb279) (o := .cells (zq10_c t270 t271 t272 t273 t274 t275 t276 t277) 29 (0, 0)) (by (with_reducible repeat (first | refine blk_drewN ?_ _ | refine blk_drew ?_ | refine blk_alloc ?_ _)); exact BK279.out)) : gb279 ≠ gb289)); have n12_ := Aside0.mk ((by rw [hg]; exact Nat.ne_of_gt (blk_lt (g := gb279) (o := .cells (zq10_c t270 t271 t272 t273 t274 t275 t276 t277) 29 (0, 0)) (by (with_reducible repeat (first | refine blk_drewN ?_ _ | refine blk_drew ?_ | refine blk_alloc ?_ _)); exact BK279.out)) : gb289 ≠ gb279)); clear BK259; clear BK269; clear BK279; clear HB; have BK259 := n0_; have BK269 := n1_; have BK279 := n2_; have HB := n3_; have BK289 := n4_; have GW289 := n5_; have GE289 := n6_; have NB259_289 := n7_; have NB289_259 := n8_; have NB269_289 := n9_; have NB289_269 := n10_; have NB279_289 := n11_; have NB289_279 := n12_; clear n0_ n1_ n2_ n3_ n4_ n5_ n6_ n7_ n8_ n9_ n10_ n11_ n12_; clear hb hbox hg; have hnb71 := NB289_259.out; have hnc71 := NB259_289.out; have hnb72 := NB289_269.out; have hnc72 := NB269_289.out; have hnb73 := NB289_279.out; have hnc73 := NB279_289.out; have hcz74_0 : w70.cell? ⟨gb289, 0, none⟩ = some (.int .i64 0) := (blk_cell BK289.out 0).trans rfl; have hcz74_1 : w70.cell? ⟨gb289, 1, none⟩ = some (.int .i64 0) := (blk_cell BK289.out 1).trans rfl; have hcz74_2 : w70.cell? ⟨gb289, 2, none⟩ = some (.int .i64 0) := (blk_cell BK289.out 2).trans rfl; have hcz74_3 : w70.cell? ⟨gb289, 3, none⟩ = some (.int .i64 0) := (blk_cell BK289.out 3).trans rfl; have hcz74_4 : w70.cell? ⟨gb289, 4, none⟩ = some (.int .i64 0) := (blk_cell BK289.out 4).trans rfl; have hcz74_5 : w70.cell? ⟨gb289, 5, none⟩ = some (.int .i64 0) := (blk_cell BK289.out 5).trans rfl; have hcz74_6 : w70.cell? ⟨gb289, 6, none⟩ = some (.bool false) := (blk_cell BK289.out 6).trans rfl; have hcz74_7 : w70.cell? ⟨gb289, 7, none⟩ = some (.int .i64 0) := (blk_cell BK289.out 7).trans rfl; have hfz74_0 := blk_frozen BK289.out 0; have hfz74_1 := blk_frozen BK289.out 1; have hfz74_2 := blk_frozen BK289.out 2; have hfz74_3 := blk_frozen BK289.out 3; have hfz74_4 := blk_frozen BK289.out 4; have hfz74_5 := blk_frozen BK289.out 5; have hfz74_6 := blk_frozen BK289.out 6; have hfz74_7 := blk_frozen BK289.out 7) | ((with_reducible refine gate_store (t := 29) (p := 9) rfl ?_); refine store_event (t := 29) (p := 9) (v := ?vo_w75) (w1 := ((((((((w70.setCell ⟨gb289, 0, none⟩ (.int .i64 t280)).setCell ⟨gb289, 1, none⟩ (.int .i64 t281)).setCell ⟨gb289, 2, none⟩ (.int .i64 t282)).setCell ⟨gb289, 3, none⟩ (.int .i64 t283)).setCell ⟨gb289, 4, none⟩ (.int .i64 t284)).setCell ⟨gb289, 5, none⟩ (.int .i64 t285)).setCell ⟨gb289, 6, none⟩ (.bool t286)).setCell ⟨gb289, 7, none⟩ (.int .i64 t287))) ?hg ?ho ?hn ?hr ?_; (case ho => rfl); (case hg => rfl); (case hn => rfl); (case hr => first | (go_simp; done) | (go_simp; rfl)); intro w75 hw; have n0_ : Aside0 (w75.heap[gb259]? = some (.cells (zq10_c t250 t251 t252 t253 t254 t255 t256 t257) 29 (0, 0))) := ⟨(by rw [hw]; exact (by (with_reducible repeat (first | refine blk_drewN ?_ _ | refine blk_drew ?_ | refine blk_alloc ?_ _ | refine blk_far ?_ NB259_289.out _)); (with_reducible repeat (first | refine blk_drewN ?_ _ | refine blk_drew ?_ | refine blk_alloc ?_ _)); exact BK259.out))⟩; have n1_ : Aside0 (w75.heap[gb269]? = some (.cells (zq10_c t260 t261 t262 t263 t264 t265 t266 t267) 29 (0, 0))) := ⟨(by rw [hw]; exact (by (with_reducible repeat (first | refine blk_drewN ?_ _ | refine blk_drew ?_ | refine blk_alloc ?_ _ | refine blk_far ?_ NB269_289.out _)); (with_reducible repeat (first | refine blk_drewN ?_ _ | refine blk_drew ?_ | refine blk_alloc ?_ _)); exact BK269.out))⟩; have n2_ : Aside0 (w75.heap[gb279]? = some (.cells (zq10_c t270 t271 t272 t273 t274 t275 t276 t277) 29 (0, 0))) := ⟨(by rw [hw]; exact (by (with_reducible repeat (first | refine blk_drewN ?_ _ | refine blk_drew ?_ | refine blk_alloc ?_ _ | refine blk_far ?_ NB279_289.out _)); (with_reducible repeat (first | refine blk_drewN ?_ _ | refine blk_drew ?_ | refine blk_alloc ?_ _)); exact BK279.out))⟩; have n3_ : Aside0 (w75.heap[gb289]? = some (.cells (zq10_c t280 t281 t282 t283 t284 t285 t286 t287) 29 (0, 0))) := ⟨(by rw [hw]; exact (by (with_reducible repeat (first | refine blk_drewN ?_ _ | refine blk_drew ?_ | refine blk_alloc ?_ _)); refine zq10_put8 (cs := #[.int .i64 0, .int .i64 0, .int .i64 0, .int .i64 0, .int .i64 0, .int .i64 0, .bool false, .int .i64 0]) ?_ rfl; (with_reducible repeat (first | refine blk_drewN ?_ _ | refine blk_drew ?_ | refine blk_alloc ?_ _)); exact BK289.out))⟩; have n4_ : Aside0 (Below w.heap.size w w75) := ⟨(by rw [hw]; exact (by repeat (first | (with_reducible first | exact HB.out | apply below_alloc | apply pw_below_drewN | apply below_drew1 | refine below_set ?_ GE259.out | refine below_set ?_ GE269.out | refine below_set ?_ GE279.out | refine below_set ?_ GE289.out) | exact HB.out)))⟩; clear hw; clear BK259; clear BK269; clear BK279; clear BK289; clear HB; have BK259 := n0_; have BK269 := n1_; have BK279 := n2_; have BK289 := n3_; have HB := n4_; clear n0_ n1_ n2_ n3_ n4_))
         have H := HS_.out
         clear HS_
         by_cases c63 : t288 = true
         ·subst c63
          have H1 : (some (t280 == t250 && (t281 == t251 && (t282 == t252 && (t283 == t253 && (t284 == t254 && (t285 == t255 && (t286 == t256 && (t287 == t257))))))))) = some r := by rw [if_pos rfl] at H; exact H
          clear H
          have H := H1
          clear H1
          obtain rfl := Option.some.inj H
          go_wp2
          have n0_ := Aside0.mk (blk_drew BK259.out)
          have n1_ := Aside0.mk (blk_drew BK269.out)
          have n2_ := Aside0.mk (blk_drew BK279.out)
          have n3_ := Aside0.mk (blk_drew BK289.out)
          have n4_ := Aside0.mk (below_drew1 HB.out)
          clear BK259
          clear BK269
          clear BK279
          clear BK289
          clear HB
          have BK259 := n0_
          have BK269 := n1_
          have BK279 := n2_
          have BK289 := n3_
          have HB := n4_
          clear n0_ n1_ n2_ n3_ n4_
          refine start_ (n := 30) (S := fun w' => w'.cell? ⟨gb269, 0, none⟩ = some (.int .i64 t260) ∧ w'.cell? ⟨gb269, 1, none⟩ = some (.int .i64 t261) ∧ w'.cell? ⟨gb269, 2, none⟩ = some (.int .i64 t262) ∧ w'.cell? ⟨gb269, 3, none⟩ = some (.int .i64 t263) ∧ w'.cell? ⟨gb269, 4, none⟩ = some (.int .i64 t264) ∧ w'.cell? ⟨gb269, 5, none⟩ = some (.int .i64 t265) ∧ w'.cell? ⟨gb269, 6, none⟩ = some (.bool t266) ∧ w'.cell? ⟨gb269, 7, none⟩ = some (.int .i64 t267) ∧ w'.cell? ⟨gb259, 0, none⟩ = some (.int .i64 t250) ∧ w'.cell? ⟨gb259, 1, none⟩ = some (.int .i64 t251) ∧ w'.cell? ⟨gb259, 2, none⟩ = some (.int .i64 t252) ∧ w'.cell? ⟨gb259, 3, none⟩ = some (.int .i64 t253) ∧ w'.cell? ⟨gb259, 4, none⟩ = some (.int .i64 t254) ∧ w'.cell? ⟨gb259, 5, none⟩ = some (.int .i64 t255) ∧ w'.cell? ⟨gb259, 6, none⟩ = some (.bool t256) ∧ w'.cell? ⟨gb259, 7, none⟩ = some (.int .i64 t257) ∧ w'.cell? ⟨gb289, 0, none⟩ = some (.int .i64 t280) ∧ w'.cell? ⟨gb289, 1, none⟩ = some (.int .i64 t281) ∧ w'.cell? ⟨gb289, 2, none⟩ = some (.int .i64 t282) ∧ w'.cell? ⟨gb289, 3, none⟩ = some (.int .i64 t283) ∧ w'.cell? ⟨gb289, 4, none⟩ = some (.int .i64 t284) ∧ w'.cell? ⟨gb289, 5, none⟩ = some (.int .i64 t285) ∧ w'.cell? ⟨gb289, 6, none⟩ = some (.bool t286) ∧ w'.cell? ⟨gb289, 7, none⟩ = some (.int .i64 t287)) (ds := []) zq10_m0 (by kernel_rfl) rfl rfl ⟨(blk_cell BK269.out 0).trans rfl, (blk_cell BK269.out 1).trans rfl, (blk_cell BK269.out 2).trans rfl, (blk_cell BK269.out 3).trans rfl, (blk_cell BK269.out 4).trans rfl, (blk_cell BK269.out 5).trans rfl, (blk_cell BK269.out 6).trans rfl, (blk_cell BK269.out 7).trans rfl, (blk_cell BK259.out 0).trans rfl, (blk_cell BK259.out 1).trans rfl, (blk_cell BK259.out 2).trans rfl, (blk_cell BK259.out 3).trans rfl, (blk_cell BK259.out 4).trans rfl, (blk_cell BK259.out 5).trans rfl, (blk_cell BK259.out 6).trans rfl, (blk_cell BK259.out 7).trans rfl, (blk_cell BK289.out 0).trans rfl, (blk_cell BK289.out 1).trans rfl, (blk_cell BK289.out 2).trans rfl, (blk_cell BK289.out 3).trans rfl, (blk_cell BK289.out 4).trans rfl, (blk_cell BK289.out 5).trans rfl, (blk_cell BK289.out 6).trans rfl, (blk_cell BK289.out 7).trans rfl⟩ (fun hHeld => ?_); refine with_tabW laws_FnShifted.tab9 laws_FnShifted.bits9 (fun HT_ HW_ => ?_)
          generalize w75.drew = w76 at BK259 BK269 BK279 BK289 HB hHeld ⊢
          refine take_ (i := 0) (N := some 57) (v := ?_) (a' := ?_) zq10_m1 rfl rfl (take_ofW HT_.out HW_.out (by kernel_rfl)) (fun _ _ _ h => h) (Or.inl ⟨by rfl, ?_⟩) hHeld ?_ ?_
          rotate_left
          ·rintro w' ⟨s0, s1, s2, s3, s4, s5, s6, s7, s8, s9, s10, s11, s12, s13, s14, s15, s16, s17, s18, s19, s20, s21, s22, s23⟩
           go_simp
           with_reducible rfl
          rotate_left
          ·simp only [Act.put, zq10_s1, zq10_s2, zq10_s3, i64_w, i32_w]
           rfl
          refine one_ (i := 1) (N := some 58) zq10_m2 rfl rfl (one_of HT_.out (by kernel_rfl)) (by decide) (fun K hK => ?_)
          refine goes_ Try.func19 (by kernel_rfl) rfl #[.agg (zq10_c t260 t261 t262 t263 t264 t265 t266 t267)] (by rfl) rfl rfl (by (try simp only [List.map_toArray, List.map_cons, List.map_nil]); first | done | rfl | (simp only [List.length_drop, List.length_take]; rfl)) ?_
          with_reducible refine (impl_DateOk.calls t260 t261 t262 t263 t264 t265 t266 t267 true _ A55.out).mono ?_
          rintro e w77 ⟨rfl, hb⟩
          refine ⟨_, rfl, ?_⟩
          have n0_ := Aside0.mk (blk_below (g := gb259) (o := .cells (zq10_c t250 t251 t252 t253 t254 t255 t256 t257) 29 (0, 0)) (by (with_reducible repeat (first | refine blk_drewN ?_ _ | refine blk_drew ?_ | refine blk_alloc ?_ _)); exact BK259.out) hb)
          have n1_ := Aside0.mk (blk_below (g := gb269) (o := .cells (zq10_c t260 t261 t262 t263 t264 t265 t266 t267) 29 (0, 0)) (by (with_reducible repeat (first | refine blk_drewN ?_ _ | refine blk_drew ?_ | refine blk_alloc ?_ _)); exact BK269.out) hb)
          have n2_ := Aside0.mk (blk_below (g := gb279) (o := .cells (zq10_c t270 t271 t272 t273 t274 t275 t276 t277) 29 (0, 0)) (by (with_reducible repeat (first | refine blk_drewN ?_ _ | refine blk_drew ?_ | refine blk_alloc ?_ _)); exact BK279.out) hb)
          have n3_ := Aside0.mk (blk_below (g := gb289) (o := .cells (zq10_c t280 t281 t282 t283 t284 t285 t286 t287) 29 (0, 0)) (by (with_reducible repeat (first | refine blk_drewN ?_ _ | refine blk_drew ?_ | refine blk_alloc ?_ _)); exact BK289.out) hb)
          have n4_ := Aside0.mk (below_step (by repeat (first | (with_reducible first | exact HB.out | apply below_alloc | apply pw_below_drewN | apply below_drew1 | refine below_set ?_ GE259.out | refine below_set ?_ GE269.out | refine below_set ?_ GE279.out | refine below_set ?_ GE289.out) | exact HB.out)) hb)
          clear BK259
          clear BK269
          clear BK279
          clear BK289
          clear HB
          have BK259 := n0_
          have BK269 := n1_
          have BK279 := n2_
          have BK289 := n3_
          have HB := n4_
          clear n0_ n1_ n2_ n3_ n4_
          (try clear hb)
          (try clear hb2)
          (try clear hk)
          (try clear hi)
          refine hK.out _ _ ⟨(blk_cell BK269.out 0).trans rfl, (blk_cell BK269.out 1).trans rfl, (blk_cell BK269.out 2).trans rfl, (blk_cell BK269.out 3).trans rfl, (blk_cell BK269.out 4).trans rfl, (blk_cell BK269.out 5).trans rfl, (blk_cell BK269.out 6).trans rfl, (blk_cell BK269.out 7).trans rfl, (blk_cell BK259.out 0).trans rfl, (blk_cell BK259.out 1).trans rfl, (blk_cell BK259.out 2).trans rfl, (blk_cell BK259.out 3).trans rfl, (blk_cell BK259.out 4).trans rfl, (blk_cell BK259.out 5).trans rfl, (blk_cell BK259.out 6).trans rfl, (blk_cell BK259.out 7).trans rfl, (blk_cell BK289.out 0).trans rfl, (blk_cell BK289.out 1).trans rfl, (blk_cell BK289.out 2).trans rfl, (blk_cell BK289.out 3).trans rfl, (blk_cell BK289.out 4).trans rfl, (blk_cell BK289.out 5).trans rfl, (blk_cell BK289.out 6).trans rfl, (blk_cell BK289.out 7).trans rfl⟩ (fun hHeld => ?_)
          clear hK K
          refine norm_ (a' := ?_) ?_ ?_
          rotate_left
          ·show Act.put _ (some 58) _ = _
           simp only [Act.put, zq10_s1, zq10_s2, zq10_s3, i64_w, i32_w]
           rfl
          refine pure_ (i := 2) (N := some 59) (v := ?_) (a' := ?_) zq10_m3 rfl rfl (any_of HT_.out (by kernel_rfl)) (fun _ _ _ h => h) (Or.inl ⟨by rfl, ?_⟩) ?_ ?_
          rotate_left
          ·intro w'
           go_simp
           with_reducible rfl
          rotate_left
          ·simp only [Act.put, zq10_s1, zq10_s2, zq10_s3, i64_w, i32_w]
           rfl
          refine pure_ (i := 3) (N := some 60) (v := ?_) (a' := ?_) zq10_m4 rfl rfl (any_of HT_.out (by kernel_rfl)) (fun _ _ _ h => h) (Or.inl ⟨by rfl, ?_⟩) ?_ ?_
          rotate_left
          ·intro w'
           go_simp
           with_reducible rfl
          rotate_left
          ·simp only [Act.put, zq10_s1, zq10_s2, zq10_s3, i64_w, i32_w]
           rfl
          refine pure_ (i := 5) (N := some 62) (v := ?_) (a' := ?_) zq10_m29 rfl rfl (any_of HT_.out (by kernel_rfl)) (fun _ _ _ h => h) (Or.inl ⟨by rfl, ?_⟩) ?_ ?_
          rotate_left
          ·intro w'
           go_simp
           with_reducible rfl
          rotate_left
          ·simp only [Act.put, zq10_s1, zq10_s2, zq10_s3, i64_w, i32_w]
           rfl
          refine take_ (i := 4) (N := some 61) (v := ?_) (a' := ?_) zq10_m5 rfl rfl (take_ofW HT_.out HW_.out (by kernel_rfl)) (fun _ _ _ h => h) (Or.inl ⟨by rfl, ?_⟩) hHeld ?_ ?_
          rotate_left
          ·rintro w' ⟨s0, s1, s2, s3, s4, s5, s6, s7, s8, s9, s10, s11, s12, s13, s14, s15, s16, s17, s18, s19, s20, s21, s22, s23⟩
           go_simp
           with_reducible rfl
          rotate_left
          ·simp only [Act.put, zq10_s1, zq10_s2, zq10_s3, i64_w, i32_w]
           rfl
          refine pure_ (i := 6) (N := some 63) (v := ?_) (a' := ?_) zq10_m6 rfl rfl (any_of HT_.out (by kernel_rfl)) (fun _ _ _ h => h) (Or.inl ⟨by rfl, ?_⟩) ?_ ?_
          rotate_left
          ·intro w'
           go_simp
           with_reducible rfl
          rotate_left
          ·simp only [Act.put, zq10_s1, zq10_s2, zq10_s3, i64_w, i32_w]
           rfl
          refine pure_ (i := 7) (N := some 64) (v := ?_) (a' := ?_) zq10_m7 rfl rfl (any_of HT_.out (by kernel_rfl)) (fun _ _ _ h => h) (Or.inl ⟨by rfl, ?_⟩) ?_ ?_
          rotate_left
          ·intro w'
           go_simp
           with_reducible rfl
          rotate_left
          ·simp only [Act.put, zq10_s1, zq10_s2, zq10_s3, i64_w, i32_w]
           rfl
          refine pure_ (i := 8) (N := some 65) (v := ?_) (a' := ?_) zq10_m8 rfl rfl (any_of HT_.out (by kernel_rfl)) (fun _ _ _ h => h) (Or.inl ⟨by rfl, ?_⟩) ?_ ?_
          rotate_left
          ·intro w'
           go_simp
           with_reducible rfl
          rotate_left
          ·simp only [Act.put, zq10_s1, zq10_s2, zq10_s3, i64_w, i32_w]
           rfl
          refine take_ (i := 9) (N := some 66) (v := ?_) (a' := ?_) zq10_m9 rfl rfl (take_ofW HT_.out HW_.out (by kernel_rfl)) (fun _ _ _ h => h) (Or.inl ⟨by rfl, ?_⟩) hHeld ?_ ?_
          rotate_left
          ·rintro w' ⟨s0, s1, s2, s3, s4, s5, s6, s7, s8, s9, s10, s11, s12, s13, s14, s15, s16, s17, s18, s19, s20, s21, s22, s23⟩
           go_simp
           with_reducible rfl
          rotate_left
          ·simp only [Act.put, zq10_s1, zq10_s2, zq10_s3, i64_w, i32_w]
           rfl
          refine take_ (i := 11) (N := some 68) (v := ?_) (a' := ?_) zq10_m30 rfl rfl (take_ofW HT_.out HW_.out (by kernel_rfl)) (fun _ _ _ h => h) (Or.inl ⟨by rfl, ?_⟩) hHeld ?_ ?_
          rotate_left
          ·rintro w' ⟨s0, s1, s2, s3, s4, s5, s6, s7, s8, s9, s10, s11, s12, s13, s14, s15, s16, s17, s18, s19, s20, s21, s22, s23⟩
           go_simp
           with_reducible rfl
          rotate_left
          ·simp only [Act.put, zq10_s1, zq10_s2, zq10_s3, i64_w, i32_w]
           rfl
          refine one_ (i := 10) (N := some 67) zq10_m10 rfl rfl (one_of HT_.out (by kernel_rfl)) (by decide) (fun K hK => ?_)
          refine goes_ Try.func21 (by kernel_rfl) rfl #[.agg (zq10_c t260 t261 t262 t263 t264 t265 t266 t267)] (by rfl) rfl rfl (by (try simp only [List.map_toArray, List.map_cons, List.map_nil]); first | done | rfl | (simp only [List.length_drop, List.length_take]; rfl)) ?_
          with_reducible refine (impl_SecondsOf.calls kj6 t260 t261 t262 t263 t264 t265 t266 t267 t291 _ A58.out).mono ?_
          rintro e w78 ⟨rfl, hb⟩
          refine ⟨_, rfl, ?_⟩
          have n0_ := Aside0.mk (blk_below (g := gb259) (o := .cells (zq10_c t250 t251 t252 t253 t254 t255 t256 t257) 29 (0, 0)) (by (with_reducible repeat (first | refine blk_drewN ?_ _ | refine blk_drew ?_ | refine blk_alloc ?_ _)); exact BK259.out) hb)
          have n1_ := Aside0.mk (blk_below (g := gb269) (o := .cells (zq10_c t260 t261 t262 t263 t264 t265 t266 t267) 29 (0, 0)) (by (with_reducible repeat (first | refine blk_drewN ?_ _ | refine blk_drew ?_ | refine blk_alloc ?_ _)); exact BK269.out) hb)
          have n2_ := Aside0.mk (blk_below (g := gb279) (o := .cells (zq10_c t270 t271 t272 t273 t274 t275 t276 t277) 29 (0, 0)) (by (with_reducible repeat (first | refine blk_drewN ?_ _ | refine blk_drew ?_ | refine blk_alloc ?_ _)); exact BK279.out) hb)
          have n3_ := Aside0.mk (blk_below (g := gb289) (o := .cells (zq10_c t280 t281 t282 t283 t284 t285 t286 t287) 29 (0, 0)) (by (with_reducible repeat (first | refine blk_drewN ?_ _ | refine blk_drew ?_ | refine blk_alloc ?_ _)); exact BK289.out) hb)
          have n4_ := Aside0.mk (below_step (by repeat (first | (with_reducible first | exact HB.out | apply below_alloc | apply pw_below_drewN | apply below_drew1 | refine below_set ?_ GE259.out | refine below_set ?_ GE269.out | refine below_set ?_ GE279.out | refine below_set ?_ GE289.out) | exact HB.out)) hb)
          clear BK259
          clear BK269
          clear BK279
          clear BK289
          clear HB
          have BK259 := n0_
          have BK269 := n1_
          have BK279 := n2_
          have BK289 := n3_
          have HB := n4_
          clear n0_ n1_ n2_ n3_ n4_
          (try clear hb)
          (try clear hb2)
          (try clear hk)
          (try clear hi)
          refine hK.out _ _ ⟨(blk_cell BK269.out 0).trans rfl, (blk_cell BK269.out 1).trans rfl, (blk_cell BK269.out 2).trans rfl, (blk_cell BK269.out 3).trans rfl, (blk_cell BK269.out 4).trans rfl, (blk_cell BK269.out 5).trans rfl, (blk_cell BK269.out 6).trans rfl, (blk_cell BK269.out 7).trans rfl, (blk_cell BK259.out 0).trans rfl, (blk_cell BK259.out 1).trans rfl, (blk_cell BK259.out 2).trans rfl, (blk_cell BK259.out 3).trans rfl, (blk_cell BK259.out 4).trans rfl, (blk_cell BK259.out 5).trans rfl, (blk_cell BK259.out 6).trans rfl, (blk_cell BK259.out 7).trans rfl, (blk_cell BK289.out 0).trans rfl, (blk_cell BK289.out 1).trans rfl, (blk_cell BK289.out 2).trans rfl, (blk_cell BK289.out 3).trans rfl, (blk_cell BK289.out 4).trans rfl, (blk_cell BK289.out 5).trans rfl, (blk_cell BK289.out 6).trans rfl, (blk_cell BK289.out 7).trans rfl⟩ (fun hHeld => ?_)
          clear hK K
          refine norm_ (a' := ?_) ?_ ?_
          rotate_left
          ·show Act.put _ (some 67) _ = _
           simp only [Act.put, zq10_s1, zq10_s2, zq10_s3, i64_w, i32_w]
           rfl
          refine one_ (i := 12) (N := some 69) zq10_m11 rfl rfl (one_of HT_.out (by kernel_rfl)) (by decide) (fun K hK => ?_)
          refine goes_ Try.func21 (by kernel_rfl) rfl #[.agg (zq10_c t250 t251 t252 t253 t254 t255 t256 t257)] (by rfl) rfl rfl (by (try simp only [List.map_toArray, List.map_cons, List.map_nil]); first | done | rfl | (simp only [List.length_drop, List.length_take]; rfl)) ?_
          with_reducible refine (impl_SecondsOf.calls kj6 t250 t251 t252 t253 t254 t255 t256 t257 t292 _ A59.out).mono ?_
          rintro e w79 ⟨rfl, hb⟩
          refine ⟨_, rfl, ?_⟩
          have n0_ := Aside0.mk (blk_below (g := gb259) (o := .cells (zq10_c t250 t251 t252 t253 t254 t255 t256 t257) 29 (0, 0)) (by (with_reducible repeat (first | refine blk_drewN ?_ _ | refine blk_drew ?_ | refine blk_alloc ?_ _)); exact BK259.out) hb)
          have n1_ := Aside0.mk (blk_below (g := gb269) (o := .cells (zq10_c t260 t261 t262 t263 t264 t265 t266 t267) 29 (0, 0)) (by (with_reducible repeat (first | refine blk_drewN ?_ _ | refine blk_drew ?_ | refine blk_alloc ?_ _)); exact BK269.out) hb)
          have n2_ := Aside0.mk (blk_below (g := gb279) (o := .cells (zq10_c t270 t271 t272 t273 t274 t275 t276 t277) 29 (0, 0)) (by (with_reducible repeat (first | refine blk_drewN ?_ _ | refine blk_drew ?_ | refine blk_alloc ?_ _)); exact BK279.out) hb)
          have n3_ := Aside0.mk (blk_below (g := gb289) (o := .cells (zq10_c t280 t281 t282 t283 t284 t285 t286 t287) 29 (0, 0)) (by (with_reducible repeat (first | refine blk_drewN ?_ _ | refine blk_drew ?_ | refine blk_alloc ?_ _)); exact BK289.out) hb)
          have n4_ := Aside0.mk (below_step (by repeat (first | (with_reducible first | exact HB.out | apply below_alloc | apply pw_below_drewN | apply below_drew1 | refine below_set ?_ GE259.out | refine below_set ?_ GE269.out | refine below_set ?_ GE279.out | refine below_set ?_ GE289.out) | exact HB.out)) hb)
          clear BK259
          clear BK269
          clear BK279
          clear BK289
          clear HB
          have BK259 := n0_
          have BK269 := n1_
          have BK279 := n2_
          have BK289 := n3_
          have HB := n4_
          clear n0_ n1_ n2_ n3_ n4_
          (try clear hb)
          (try clear hb2)
          (try clear hk)
          (try clear hi)
          refine hK.out _ _ ⟨(blk_cell BK269.out 0).trans rfl, (blk_cell BK269.out 1).trans rfl, (blk_cell BK269.out 2).trans rfl, (blk_cell BK269.out 3).trans rfl, (blk_cell BK269.out 4).trans rfl, (blk_cell BK269.out 5).trans rfl, (blk_cell BK269.out 6).trans rfl, (blk_cell BK269.out 7).trans rfl, (blk_cell BK259.out 0).trans rfl, (blk_cell BK259.out 1).trans rfl, (blk_cell BK259.out 2).trans rfl, (blk_cell BK259.out 3).trans rfl, (blk_cell BK259.out 4).trans rfl, (blk_cell BK259.out 5).trans rfl, (blk_cell BK259.out 6).trans rfl, (blk_cell BK259.out 7).trans rfl, (blk_cell BK289.out 0).trans rfl, (blk_cell BK289.out 1).trans rfl, (blk_cell BK289.out 2).trans rfl, (blk_cell BK289.out 3).trans rfl, (blk_cell BK289.out 4).trans rfl, (blk_cell BK289.out 5).trans rfl, (blk_cell BK289.out 6).trans rfl, (blk_cell BK289.out 7).trans rfl⟩ (fun hHeld => ?_)
          clear hK K
          refine norm_ (a' := ?_) ?_ ?_
          rotate_left
          ·show Act.put _ (some 69) _ = _
           simp only [Act.put, zq10_s1, zq10_s2, zq10_s3, i64_w, i32_w]
           rfl
          refine pure_ (i := 13) (N := some 70) (v := ?_) (a' := ?_) zq10_m12 rfl rfl (any_of HT_.out (by kernel_rfl)) (fun _ _ _ h => h) (Or.inl ⟨by rfl, ?_⟩) ?_ ?_
          rotate_left
          ·intro w'
           go_simp
           with_reducible rfl
          rotate_left
          ·simp only [Act.put, zq10_s1, zq10_s2, zq10_s3, i64_w, i32_w]
           rfl
          refine pure_ (i := 14) (N := some 71) (v := ?_) (a' := ?_) zq10_m13 rfl rfl (any_of HT_.out (by kernel_rfl)) (fun _ _ _ h => h) (Or.inl ⟨by rfl, ?_⟩) ?_ ?_
          rotate_left
          ·intro w'
           go_simp
           with_reducible rfl
          rotate_left
          ·simp only [Act.put, zq10_s1, zq10_s2, zq10_s3, i64_w, i32_w]
           rfl
          refine pure_ (i := 15) (N := some 72) (v := ?_) (a' := ?_) zq10_m14 rfl rfl (any_of HT_.out (by kernel_rfl)) (fun _ _ _ h => h) (Or.inl ⟨by rfl, ?_⟩) ?_ ?_
          rotate_left
          ·intro w'
           go_simp
           with_reducible rfl
          rotate_left
          ·simp only [Act.put, zq10_s1, zq10_s2, zq10_s3, i64_w, i32_w]
           rfl
          refine take_ (i := 16) (N := some 73) (v := ?_) (a' := ?_) zq10_m15 rfl rfl (take_ofW HT_.out HW_.out (by kernel_rfl)) (fun _ _ _ h => h) (Or.inl ⟨by rfl, ?_⟩) hHeld ?_ ?_
          rotate_left
          ·rintro w' ⟨s0, s1, s2, s3, s4, s5, s6, s7, s8, s9, s10, s11, s12, s13, s14, s15, s16, s17, s18, s19, s20, s21, s22, s23⟩
           go_simp
           with_reducible rfl
          rotate_left
          ·simp only [Act.put, zq10_s1, zq10_s2, zq10_s3, i64_w, i32_w]
           rfl
          refine take_ (i := 17) (N := some 74) (v := ?_) (a' := ?_) zq10_m16 rfl rfl (take_ofW HT_.out HW_.out (by kernel_rfl)) (fun _ _ _ h => h) (Or.inl ⟨by rfl, ?_⟩) hHeld ?_ ?_
          rotate_left
          ·rintro w' ⟨s0, s1, s2, s3, s4, s5, s6, s7, s8, s9, s10, s11, s12, s13, s14, s15, s16, s17, s18, s19, s20, s21, s22, s23⟩
           go_simp
           with_reducible rfl
          rotate_left
          ·simp only [Act.put, zq10_s1, zq10_s2, zq10_s3, i64_w, i32_w]
           rfl
          refine one_ (i := 18) (N := some 75) zq10_m17 rfl rfl (one_of HT_.out (by kernel_rfl)) (by decide) (fun K hK => ?_)
          refine goes_ Try.func23 (by kernel_rfl) rfl #[.agg (zq10_c t260 t261 t262 t263 t264 t265 t266 t267), .agg (zq10_c t250 t251 t252 t253 t254 t255 t256 t257)] (by rfl) rfl rfl (by (try simp only [List.map_toArray, List.map_cons, List.map_nil]); first | done | rfl | (simp only [List.length_drop, List.length_take]; rfl)) ?_
          with_reducible refine (impl_CompareDate.calls kj6 t260 t261 t262 t263 t264 t265 t266 t267 t250 t251 t252 t253 t254 t255 t256 t257 t293 _ A61.out).mono ?_
          rintro e w80 ⟨rfl, hb⟩
          refine ⟨_, rfl, ?_⟩
          have n0_ := Aside0.mk (blk_below (g := gb259) (o := .cells (zq10_c t250 t251 t252 t253 t254 t255 t256 t257) 29 (0, 0)) (by (with_reducible repeat (first | refine blk_drewN ?_ _ | refine blk_drew ?_ | refine blk_alloc ?_ _)); exact BK259.out) hb)
          have n1_ := Aside0.mk (blk_below (g := gb269) (o := .cells (zq10_c t260 t261 t262 t263 t264 t265 t266 t267) 29 (0, 0)) (by (with_reducible repeat (first | refine blk_drewN ?_ _ | refine blk_drew ?_ | refine blk_alloc ?_ _)); exact BK269.out) hb)
          have n2_ := Aside0.mk (blk_below (g := gb279) (o := .cells (zq10_c t270 t271 t272 t273 t274 t275 t276 t277) 29 (0, 0)) (by (with_reducible repeat (first | refine blk_drewN ?_ _ | refine blk_drew ?_ | refine blk_alloc ?_ _)); exact BK279.out) hb)
          have n3_ := Aside0.mk (blk_below (g := gb289) (o := .cells (zq10_c t280 t281 t282 t283 t284 t285 t286 t287) 29 (0, 0)) (by (with_reducible repeat (first | refine blk_drewN ?_ _ | refine blk_drew ?_ | refine blk_alloc ?_ _)); exact BK289.out) hb)
          have n4_ := Aside0.mk (below_step (by repeat (first | (with_reducible first | exact HB.out | apply below_alloc | apply pw_below_drewN | apply below_drew1 | refine below_set ?_ GE259.out | refine below_set ?_ GE269.out | refine below_set ?_ GE279.out | refine below_set ?_ GE289.out) | exact HB.out)) hb)
          clear BK259
          clear BK269
          clear BK279
          clear BK289
          clear HB
          have BK259 := n0_
          have BK269 := n1_
          have BK279 := n2_
          have BK289 := n3_
          have HB := n4_
          clear n0_ n1_ n2_ n3_ n4_
          (try clear hb)
          (try clear hb2)
          (try clear hk)
          (try clear hi)
          refine hK.out _ _ ⟨(blk_cell BK269.out 0).trans rfl, (blk_cell BK269.out 1).trans rfl, (blk_cell BK269.out 2).trans rfl, (blk_cell BK269.out 3).trans rfl, (blk_cell BK269.out 4).trans rfl, (blk_cell BK269.out 5).trans rfl, (blk_cell BK269.out 6).trans rfl, (blk_cell BK269.out 7).trans rfl, (blk_cell BK259.out 0).trans rfl, (blk_cell BK259.out 1).trans rfl, (blk_cell BK259.out 2).trans rfl, (blk_cell BK259.out 3).trans rfl, (blk_cell BK259.out 4).trans rfl, (blk_cell BK259.out 5).trans rfl, (blk_cell BK259.out 6).trans rfl, (blk_cell BK259.out 7).trans rfl, (blk_cell BK289.out 0).trans rfl, (blk_cell BK289.out 1).trans rfl, (blk_cell BK289.out 2).trans rfl, (blk_cell BK289.out 3).trans rfl, (blk_cell BK289.out 4).trans rfl, (blk_cell BK289.out 5).trans rfl, (blk_cell BK289.out 6).trans rfl, (blk_cell BK289.out 7).trans rfl⟩ (fun hHeld => ?_)
          clear hK K
          refine norm_ (a' := ?_) ?_ ?_
          rotate_left
          ·show Act.put _ (some 75) _ = _
           simp only [Act.put, zq10_s1, zq10_s2, zq10_s3, i64_w, i32_w]
           rfl
          refine pure_ (i := 19) (N := some 76) (v := ?_) (a' := ?_) zq10_m18 rfl rfl (any_of HT_.out (by kernel_rfl)) (fun _ _ _ h => h) (Or.inl ⟨by rfl, ?_⟩) ?_ ?_
          rotate_left
          ·intro w'
           go_simp
           with_reducible rfl
          rotate_left
          ·simp only [Act.put, zq10_s1, zq10_s2, zq10_s3, i64_w, i32_w]
           rfl
          refine pure_ (i := 20) (N := some 77) (v := ?_) (a' := ?_) zq10_m19 rfl rfl (any_of HT_.out (by kernel_rfl)) (fun _ _ _ h => h) (Or.inl ⟨by rfl, ?_⟩) ?_ ?_
          rotate_left
          ·intro w'
           go_simp
           with_reducible rfl
          rotate_left
          ·simp only [Act.put, zq10_s1, zq10_s2, zq10_s3, i64_w, i32_w]
           rfl
          refine pure_ (i := 21) (N := some 78) (v := ?_) (a' := ?_) zq10_m20 rfl rfl (any_of HT_.out (by kernel_rfl)) (fun _ _ _ h => h) (Or.inl ⟨by rfl, ?_⟩) ?_ ?_
          rotate_left
          ·intro w'
           go_simp
           with_reducible rfl
          rotate_left
          ·simp only [Act.put, zq10_s1, zq10_s2, zq10_s3, i64_w, i32_w]
           rfl
          refine pure_ (i := 22) (N := some 79) (v := ?_) (a' := ?_) zq10_m21 rfl rfl (any_of HT_.out (by kernel_rfl)) (fun _ _ _ h => h) (Or.inl ⟨by rfl, ?_⟩) ?_ ?_
          rotate_left
          ·intro w'
           go_simp
           with_reducible rfl
          rotate_left
          ·simp only [Act.put, zq10_s1, zq10_s2, zq10_s3, i64_w, i32_w]
           rfl
          refine pure_ (i := 23) (N := some 80) (v := ?_) (a' := ?_) zq10_m22 rfl rfl (any_of HT_.out (by kernel_rfl)) (fun _ _ _ h => h) (Or.inl ⟨by rfl, ?_⟩) ?_ ?_
          rotate_left
          ·intro w'
           go_simp
           with_reducible rfl
          rotate_left
          ·simp only [Act.put, zq10_s1, zq10_s2, zq10_s3, i64_w, i32_w]
           rfl
          refine pure_ (i := 24) (N := some 81) (v := ?_) (a' := ?_) zq10_m23 rfl rfl (any_of HT_.out (by kernel_rfl)) (fun _ _ _ h => h) (Or.inl ⟨by rfl, ?_⟩) ?_ ?_
          rotate_left
          ·intro w'
           go_simp
           with_reducible rfl
          rotate_left
          ·simp only [Act.put, zq10_s1, zq10_s2, zq10_s3, i64_w, i32_w]
           rfl
          refine take_ (i := 25) (N := some 82) (v := ?_) (a' := ?_) zq10_m24 rfl rfl (take_ofW HT_.out HW_.out (by kernel_rfl)) (fun _ _ _ h => h) (Or.inl ⟨by rfl, ?_⟩) hHeld ?_ ?_
          rotate_left
          ·rintro w' ⟨s0, s1, s2, s3, s4, s5, s6, s7, s8, s9, s10, s11, s12, s13, s14, s15, s16, s17, s18, s19, s20, s21, s22, s23⟩
           go_simp
           with_reducible rfl
          rotate_left
          ·simp only [Act.put, zq10_s1, zq10_s2, zq10_s3, i64_w, i32_w]
           rfl
          refine take_ (i := 26) (N := some 83) (v := ?_) (a' := ?_) zq10_m25 rfl rfl (take_ofW HT_.out HW_.out (by kernel_rfl)) (fun _ _ _ h => h) (Or.inl ⟨by rfl, ?_⟩) hHeld ?_ ?_
          rotate_left
          ·rintro w' ⟨s0, s1, s2, s3, s4, s5, s6, s7, s8, s9, s10, s11, s12, s13, s14, s15, s16, s17, s18, s19, s20, s21, s22, s23⟩
           go_simp
           with_reducible rfl
          rotate_left
          ·simp only [Act.put, zq10_s1, zq10_s2, zq10_s3, i64_w, i32_w]
           rfl
          refine pure_ (i := 27) (N := some 84) (v := ?_) (a' := ?_) zq10_m26 rfl rfl (any_of HT_.out (by kernel_rfl)) (fun _ _ _ h => h) (Or.inl ⟨by rfl, ?_⟩) ?_ ?_
          rotate_left
          ·intro w'
           go_simp
           with_reducible rfl
          rotate_left
          ·simp only [Act.put, zq10_s1, zq10_s2, zq10_s3, i64_w, i32_w]
           rfl
          refine pure_ (i := 28) (N := some 85) (v := ?_) (a' := ?_) zq10_m27 rfl rfl (any_of HT_.out (by kernel_rfl)) (fun _ _ _ h => h) (Or.inl ⟨by rfl, ?_⟩) ?_ ?_
          rotate_left
          ·intro w'
           go_simp
           with_reducible rfl
          rotate_left
          ·simp only [Act.put, zq10_s1, zq10_s2, zq10_s3, i64_w, i32_w]
           rfl
          refine pure_ (i := 29) (N := some 2) (v := ?_) (a' := ?_) zq10_m28 rfl rfl (any_of HT_.out (by kernel_rfl)) (fun _ _ _ h => h) (Or.inl ⟨by rfl, ?_⟩) ?_ ?_
          rotate_left
          ·intro w'
           go_simp
           with_reducible rfl
          rotate_left
          ·simp only [Act.put, zq10_s1, zq10_s2, zq10_s3, i64_w, i32_w]
           rfl
          refine done_ (done_of HT_.out (by kernel_rfl)) ?_
          try go_wp2
          go_ret
          exact ⟨by first | rfl | (simp [*] <;> rfl), by repeat (first | (with_reducible first | exact HB.out | apply below_alloc | apply pw_below_drewN | apply below_drew1 | refine below_set ?_ GE259.out | refine below_set ?_ GE269.out | refine below_set ?_ GE279.out | refine below_set ?_ GE289.out) | exact HB.out)⟩
         ·replace c63 := Bool.eq_false_iff.mpr c63
          subst c63
          have H1 : (some false) = some r := by rw [if_neg (show ¬ (false = true) by decide)] at H; exact H
          clear H
          have H := H1
          clear H1
          obtain rfl := Option.some.inj H
          go_wp2
          have n0_ := Aside0.mk (blk_drew BK259.out)
          have n1_ := Aside0.mk (blk_drew BK269.out)
          have n2_ := Aside0.mk (blk_drew BK279.out)
          have n3_ := Aside0.mk (blk_drew BK289.out)
          have n4_ := Aside0.mk (below_drew1 HB.out)
          clear BK259
          clear BK269
          clear BK279
          clear BK289
          clear HB
          have BK259 := n0_
          have BK269 := n1_
          have BK279 := n2_
          have BK289 := n3_
          have HB := n4_
          clear n0_ n1_ n2_ n3_ n4_
          refine start_ (n := 30) (S := fun w' => w'.cell? ⟨gb269, 0, none⟩ = some (.int .i64 t260) ∧ w'.cell? ⟨gb269, 1, none⟩ = some (.int .i64 t261) ∧ w'.cell? ⟨gb269, 2, none⟩ = some (.int .i64 t262) ∧ w'.cell? ⟨gb269, 3, none⟩ = some (.int .i64 t263) ∧ w'.cell? ⟨gb269, 4, none⟩ = some (.int .i64 t264) ∧ w'.cell? ⟨gb269, 5, none⟩ = some (.int .i64 t265) ∧ w'.cell? ⟨gb269, 6, none⟩ = some (.bool t266) ∧ w'.cell? ⟨gb269, 7, none⟩ = some (.int .i64 t267) ∧ w'.cell? ⟨gb259, 0, none⟩ = some (.int .i64 t250) ∧ w'.cell? ⟨gb259, 1, none⟩ = some (.int .i64 t251) ∧ w'.cell? ⟨gb259, 2, none⟩ = some (.int .i64 t252) ∧ w'.cell? ⟨gb259, 3, none⟩ = some (.int .i64 t253) ∧ w'.cell? ⟨gb259, 4, none⟩ = some (.int .i64 t254) ∧ w'.cell? ⟨gb259, 5, none⟩ = some (.int .i64 t255) ∧ w'.cell? ⟨gb259, 6, none⟩ = some (.bool t256) ∧ w'.cell? ⟨gb259, 7, none⟩ = some (.int .i64 t257)) (ds := []) zq10_m0 (by kernel_rfl) rfl rfl ⟨(blk_cell BK269.out 0).trans rfl, (blk_cell BK269.out 1).trans rfl, (blk_cell BK269.out 2).trans rfl, (blk_cell BK269.out 3).trans rfl, (blk_cell BK269.out 4).trans rfl, (blk_cell BK269.out 5).trans rfl, (blk_cell BK269.out 6).trans rfl, (blk_cell BK269.out 7).trans rfl, (blk_cell BK259.out 0).trans rfl, (blk_cell BK259.out 1).trans rfl, (blk_cell BK259.out 2).trans rfl, (blk_cell BK259.out 3).trans rfl, (blk_cell BK259.out 4).trans rfl, (blk_cell BK259.out 5).trans rfl, (blk_cell BK259.out 6).trans rfl, (blk_cell BK259.out 7).trans rfl⟩ (fun hHeld => ?_); refine with_tabW laws_FnShifted.tab9 laws_FnShifted.bits9 (fun HT_ HW_ => ?_)
          generalize w75.drew = w93 at BK259 BK269 BK279 BK289 HB hHeld ⊢
          refine take_ (i := 0) (N := some 57) (v := ?_) (a' := ?_) zq10_m1 rfl rfl (take_ofW HT_.out HW_.out (by kernel_rfl)) (fun _ _ _ h => h) (Or.inl ⟨by rfl, ?_⟩) hHeld ?_ ?_
          rotate_left
          ·rintro w' ⟨s0, s1, s2, s3, s4, s5, s6, s7, s8, s9, s10, s11, s12, s13, s14, s15⟩
           go_simp
           with_reducible rfl
          rotate_left
          ·simp only [Act.put, zq10_s1, zq10_s2, zq10_s3, i64_w, i32_w]
           rfl
          refine one_ (i := 1) (N := some 58) zq10_m2 rfl rfl (one_of HT_.out (by kernel_rfl)) (by decide) (fun K hK => ?_)
          refine goes_ Try.func19 (by kernel_rfl) rfl #[.agg (zq10_c t260 t261 t262 t263 t264 t265 t266 t267)] (by rfl) rfl rfl (by (try simp only [List.map_toArray, List.map_cons, List.map_nil]); first | done | rfl | (simp only [List.length_drop, List.length_take]; rfl)) ?_
          with_reducible refine (impl_DateOk.calls t260 t261 t262 t263 t264 t265 t266 t267 true _ A55.out).mono ?_
          rintro e w94 ⟨rfl, hb⟩
          refine ⟨_, rfl, ?_⟩
          have n0_ := Aside0.mk (blk_below (g := gb259) (o := .cells (zq10_c t250 t251 t252 t253 t254 t255 t256 t257) 29 (0, 0)) (by (with_reducible repeat (first | refine blk_drewN ?_ _ | refine blk_drew ?_ | refine blk_alloc ?_ _)); exact BK259.out) hb)
          have n1_ := Aside0.mk (blk_below (g := gb269) (o := .cells (zq10_c t260 t261 t262 t263 t264 t265 t266 t267) 29 (0, 0)) (by (with_reducible repeat (first | refine blk_drewN ?_ _ | refine blk_drew ?_ | refine blk_alloc ?_ _)); exact BK269.out) hb)
          have n2_ := Aside0.mk (blk_below (g := gb279) (o := .cells (zq10_c t270 t271 t272 t273 t274 t275 t276 t277) 29 (0, 0)) (by (with_reducible repeat (first | refine blk_drewN ?_ _ | refine blk_drew ?_ | refine blk_alloc ?_ _)); exact BK279.out) hb)
          have n3_ := Aside0.mk (blk_below (g := gb289) (o := .cells (zq10_c t280 t281 t282 t283 t284 t285 t286 t287) 29 (0, 0)) (by (with_reducible repeat (first | refine blk_drewN ?_ _ | refine blk_drew ?_ | refine blk_alloc ?_ _)); exact BK289.out) hb)
          have n4_ := Aside0.mk (below_step (by repeat (first | (with_reducible first | exact HB.out | apply below_alloc | apply pw_below_drewN | apply below_drew1 | refine below_set ?_ GE259.out | refine below_set ?_ GE269.out | refine below_set ?_ GE279.out | refine below_set ?_ GE289.out) | exact HB.out)) hb)
          clear BK259
          clear BK269
          clear BK279
          clear BK289
          clear HB
          have BK259 := n0_
          have BK269 := n1_
          have BK279 := n2_
          have BK289 := n3_
          have HB := n4_
          clear n0_ n1_ n2_ n3_ n4_
          (try clear hb)
          (try clear hb2)
          (try clear hk)
          (try clear hi)
          refine hK.out _ _ ⟨(blk_cell BK269.out 0).trans rfl, (blk_cell BK269.out 1).trans rfl, (blk_cell BK269.out 2).trans rfl, (blk_cell BK269.out 3).trans rfl, (blk_cell BK269.out 4).trans rfl, (blk_cell BK269.out 5).trans rfl, (blk_cell BK269.out 6).trans rfl, (blk_cell BK269.out 7).trans rfl, (blk_cell BK259.out 0).trans rfl, (blk_cell BK259.out 1).trans rfl, (blk_cell BK259.out 2).trans rfl, (blk_cell BK259.out 3).trans rfl, (blk_cell BK259.out 4).trans rfl, (blk_cell BK259.out 5).trans rfl, (blk_cell BK259.out 6).trans rfl, (blk_cell BK259.out 7).trans rfl⟩ (fun hHeld => ?_)
          clear hK K
          refine norm_ (a' := ?_) ?_ ?_
          rotate_left
          ·show Act.put _ (some 58) _ = _
           simp only [Act.put, zq10_s1, zq10_s2, zq10_s3, i64_w, i32_w]
           rfl
          refine pure_ (i := 2) (N := some 59) (v := ?_) (a' := ?_) zq10_m3 rfl rfl (any_of HT_.out (by kernel_rfl)) (fun _ _ _ h => h) (Or.inl ⟨by rfl, ?_⟩) ?_ ?_
          rotate_left
          ·intro w'
           go_simp
           with_reducible rfl
          rotate_left
          ·simp only [Act.put, zq10_s1, zq10_s2, zq10_s3, i64_w, i32_w]
           rfl
          refine pure_ (i := 3) (N := some 60) (v := ?_) (a' := ?_) zq10_m4 rfl rfl (any_of HT_.out (by kernel_rfl)) (fun _ _ _ h => h) (Or.inl ⟨by rfl, ?_⟩) ?_ ?_
          rotate_left
          ·intro w'
           go_simp
           with_reducible rfl
          rotate_left
          ·simp only [Act.put, zq10_s1, zq10_s2, zq10_s3, i64_w, i32_w]
           rfl
          refine pure_ (i := 5) (N := some 62) (v := ?_) (a' := ?_) zq10_m29 rfl rfl (any_of HT_.out (by kernel_rfl)) (fun _ _ _ h => h) (Or.inl ⟨by rfl, ?_⟩) ?_ ?_
          rotate_left
          ·intro w'
           go_simp
           with_reducible rfl
          rotate_left
          ·simp only [Act.put, zq10_s1, zq10_s2, zq10_s3, i64_w, i32_w]
           rfl
          refine take_ (i := 4) (N := some 61) (v := ?_) (a' := ?_) zq10_m5 rfl rfl (take_ofW HT_.out HW_.out (by kernel_rfl)) (fun _ _ _ h => h) (Or.inl ⟨by rfl, ?_⟩) hHeld ?_ ?_
          rotate_left
          ·rintro w' ⟨s0, s1, s2, s3, s4, s5, s6, s7, s8, s9, s10, s11, s12, s13, s14, s15⟩
           go_simp
           with_reducible rfl
          rotate_left
          ·simp only [Act.put, zq10_s1, zq10_s2, zq10_s3, i64_w, i32_w]
           rfl
          refine pure_ (i := 6) (N := some 63) (v := ?_) (a' := ?_) zq10_m6 rfl rfl (any_of HT_.out (by kernel_rfl)) (fun _ _ _ h => h) (Or.inl ⟨by rfl, ?_⟩) ?_ ?_
          rotate_left
          ·intro w'
           go_simp
           with_reducible rfl
          rotate_left
          ·simp only [Act.put, zq10_s1, zq10_s2, zq10_s3, i64_w, i32_w]
           rfl
          refine pure_ (i := 7) (N := some 64) (v := ?_) (a' := ?_) zq10_m7 rfl rfl (any_of HT_.out (by kernel_rfl)) (fun _ _ _ h => h) (Or.inl ⟨by rfl, ?_⟩) ?_ ?_
          rotate_left
          ·intro w'
           go_simp
           with_reducible rfl
          rotate_left
          ·simp only [Act.put, zq10_s1, zq10_s2, zq10_s3, i64_w, i32_w]
           rfl
          refine pure_ (i := 8) (N := some 65) (v := ?_) (a' := ?_) zq10_m8 rfl rfl (any_of HT_.out (by kernel_rfl)) (fun _ _ _ h => h) (Or.inl ⟨by rfl, ?_⟩) ?_ ?_
          rotate_left
          ·intro w'
           go_simp
           with_reducible rfl
          rotate_left
          ·simp only [Act.put, zq10_s1, zq10_s2, zq10_s3, i64_w, i32_w]
           rfl
          refine take_ (i := 9) (N := some 66) (v := ?_) (a' := ?_) zq10_m9 rfl rfl (take_ofW HT_.out HW_.out (by kernel_rfl)) (fun _ _ _ h => h) (Or.inl ⟨by rfl, ?_⟩) hHeld ?_ ?_
          rotate_left
          ·rintro w' ⟨s0, s1, s2, s3, s4, s5, s6, s7, s8, s9, s10, s11, s12, s13, s14, s15⟩
           go_simp
           with_reducible rfl
          rotate_left
          ·simp only [Act.put, zq10_s1, zq10_s2, zq10_s3, i64_w, i32_w]
           rfl
          refine take_ (i := 11) (N := some 68) (v := ?_) (a' := ?_) zq10_m30 rfl rfl (take_ofW HT_.out HW_.out (by kernel_rfl)) (fun _ _ _ h => h) (Or.inl ⟨by rfl, ?_⟩) hHeld ?_ ?_
          rotate_left
          ·rintro w' ⟨s0, s1, s2, s3, s4, s5, s6, s7, s8, s9, s10, s11, s12, s13, s14, s15⟩
           go_simp
           with_reducible rfl
          rotate_left
          ·simp only [Act.put, zq10_s1, zq10_s2, zq10_s3, i64_w, i32_w]
           rfl
          refine one_ (i := 10) (N := some 67) zq10_m10 rfl rfl (one_of HT_.out (by kernel_rfl)) (by decide) (fun K hK => ?_)
          refine goes_ Try.func21 (by kernel_rfl) rfl #[.agg (zq10_c t260 t261 t262 t263 t264 t265 t266 t267)] (by rfl) rfl rfl (by (try simp only [List.map_toArray, List.map_cons, List.map_nil]); first | done | rfl | (simp only [List.length_drop, List.length_take]; rfl)) ?_
          with_reducible refine (impl_SecondsOf.calls kj6 t260 t261 t262 t263 t264 t265 t266 t267 t291 _ A58.out).mono ?_
          rintro e w95 ⟨rfl, hb⟩
          refine ⟨_, rfl, ?_⟩
          have n0_ := Aside0.mk (blk_below (g := gb259) (o := .cells (zq10_c t250 t251 t252 t253 t254 t255 t256 t257) 29 (0, 0)) (by (with_reducible repeat (first | refine blk_drewN ?_ _ | refine blk_drew ?_ | refine blk_alloc ?_ _)); exact BK259.out) hb)
          have n1_ := Aside0.mk (blk_below (g := gb269) (o := .cells (zq10_c t260 t261 t262 t263 t264 t265 t266 t267) 29 (0, 0)) (by (with_reducible repeat (first | refine blk_drewN ?_ _ | refine blk_drew ?_ | refine blk_alloc ?_ _)); exact BK269.out) hb)
          have n2_ := Aside0.mk (blk_below (g := gb279) (o := .cells (zq10_c t270 t271 t272 t273 t274 t275 t276 t277) 29 (0, 0)) (by (with_reducible repeat (first | refine blk_drewN ?_ _ | refine blk_drew ?_ | refine blk_alloc ?_ _)); exact BK279.out) hb)
          have n3_ := Aside0.mk (blk_below (g := gb289) (o := .cells (zq10_c t280 t281 t282 t283 t284 t285 t286 t287) 29 (0, 0)) (by (with_reducible repeat (first | refine blk_drewN ?_ _ | refine blk_drew ?_ | refine blk_alloc ?_ _)); exact BK289.out) hb)
          have n4_ := Aside0.mk (below_step (by repeat (first | (with_reducible first | exact HB.out | apply below_alloc | apply pw_below_drewN | apply below_drew1 | refine below_set ?_ GE259.out | refine below_set ?_ GE269.out | refine below_set ?_ GE279.out | refine below_set ?_ GE289.out) | exact HB.out)) hb)
          clear BK259
          clear BK269
          clear BK279
          clear BK289
          clear HB
          have BK259 := n0_
          have BK269 := n1_
          have BK279 := n2_
          have BK289 := n3_
          have HB := n4_
          clear n0_ n1_ n2_ n3_ n4_
          (try clear hb)
          (try clear hb2)
          (try clear hk)
          (try clear hi)
          refine hK.out _ _ ⟨(blk_cell BK269.out 0).trans rfl, (blk_cell BK269.out 1).trans rfl, (blk_cell BK269.out 2).trans rfl, (blk_cell BK269.out 3).trans rfl, (blk_cell BK269.out 4).trans rfl, (blk_cell BK269.out 5).trans rfl, (blk_cell BK269.out 6).trans rfl, (blk_cell BK269.out 7).trans rfl, (blk_cell BK259.out 0).trans rfl, (blk_cell BK259.out 1).trans rfl, (blk_cell BK259.out 2).trans rfl, (blk_cell BK259.out 3).trans rfl, (blk_cell BK259.out 4).trans rfl, (blk_cell BK259.out 5).trans rfl, (blk_cell BK259.out 6).trans rfl, (blk_cell BK259.out 7).trans rfl⟩ (fun hHeld => ?_)
          clear hK K
          refine norm_ (a' := ?_) ?_ ?_
          rotate_left
          ·show Act.put _ (some 67) _ = _
           simp only [Act.put, zq10_s1, zq10_s2, zq10_s3, i64_w, i32_w]
           rfl
          refine one_ (i := 12) (N := some 69) zq10_m11 rfl rfl (one_of HT_.out (by kernel_rfl)) (by decide) (fun K hK => ?_)
          refine goes_ Try.func21 (by kernel_rfl) rfl #[.agg (zq10_c t250 t251 t252 t253 t254 t255 t256 t257)] (by rfl) rfl rfl (by (try simp only [List.map_toArray, List.map_cons, List.map_nil]); first | done | rfl | (simp only [List.length_drop, List.length_take]; rfl)) ?_
          with_reducible refine (impl_SecondsOf.calls kj6 t250 t251 t252 t253 t254 t255 t256 t257 t292 _ A59.out).mono ?_
          rintro e w96 ⟨rfl, hb⟩
          refine ⟨_, rfl, ?_⟩
          have n0_ := Aside0.mk (blk_below (g := gb259) (o := .cells (zq10_c t250 t251 t252 t253 t254 t255 t256 t257) 29 (0, 0)) (by (with_reducible repeat (first | refine blk_drewN ?_ _ | refine blk_drew ?_ | refine blk_alloc ?_ _)); exact BK259.out) hb)
          have n1_ := Aside0.mk (blk_below (g := gb269) (o := .cells (zq10_c t260 t261 t262 t263 t264 t265 t266 t267) 29 (0, 0)) (by (with_reducible repeat (first | refine blk_drewN ?_ _ | refine blk_drew ?_ | refine blk_alloc ?_ _)); exact BK269.out) hb)
          have n2_ := Aside0.mk (blk_below (g := gb279) (o := .cells (zq10_c t270 t271 t272 t273 t274 t275 t276 t277) 29 (0, 0)) (by (with_reducible repeat (first | refine blk_drewN ?_ _ | refine blk_drew ?_ | refine blk_alloc ?_ _)); exact BK279.out) hb)
          have n3_ := Aside0.mk (blk_below (g := gb289) (o := .cells (zq10_c t280 t281 t282 t283 t284 t285 t286 t287) 29 (0, 0)) (by (with_reducible repeat (first | refine blk_drewN ?_ _ | refine blk_drew ?_ | refine blk_alloc ?_ _)); exact BK289.out) hb)
          have n4_ := Aside0.mk (below_step (by repeat (first | (with_reducible first | exact HB.out | apply below_alloc | apply pw_below_drewN | apply below_drew1 | refine below_set ?_ GE259.out | refine below_set ?_ GE269.out | refine below_set ?_ GE279.out | refine below_set ?_ GE289.out) | exact HB.out)) hb)
          clear BK259
          clear BK269
          clear BK279
          clear BK289
          clear HB
          have BK259 := n0_
          have BK269 := n1_
          have BK279 := n2_
          have BK289 := n3_
          have HB := n4_
          clear n0_ n1_ n2_ n3_ n4_
          (try clear hb)
          (try clear hb2)
          (try clear hk)
          (try clear hi)
          refine hK.out _ _ ⟨(blk_cell BK269.out 0).trans rfl, (blk_cell BK269.out 1).trans rfl, (blk_cell BK269.out 2).trans rfl, (blk_cell BK269.out 3).trans rfl, (blk_cell BK269.out 4).trans rfl, (blk_cell BK269.out 5).trans rfl, (blk_cell BK269.out 6).trans rfl, (blk_cell BK269.out 7).trans rfl, (blk_cell BK259.out 0).trans rfl, (blk_cell BK259.out 1).trans rfl, (blk_cell BK259.out 2).trans rfl, (blk_cell BK259.out 3).trans rfl, (blk_cell BK259.out 4).trans rfl, (blk_cell BK259.out 5).trans rfl, (blk_cell BK259.out 6).trans rfl, (blk_cell BK259.out 7).trans rfl⟩ (fun hHeld => ?_)
          clear hK K
          refine norm_ (a' := ?_) ?_ ?_
          rotate_left
          ·show Act.put _ (some 69) _ = _
           simp only [Act.put, zq10_s1, zq10_s2, zq10_s3, i64_w, i32_w]
           rfl
          refine pure_ (i := 13) (N := some 70) (v := ?_) (a' := ?_) zq10_m12 rfl rfl (any_of HT_.out (by kernel_rfl)) (fun _ _ _ h => h) (Or.inl ⟨by rfl, ?_⟩) ?_ ?_
          rotate_left
          ·intro w'
           go_simp
           with_reducible rfl
          rotate_left
          ·simp only [Act.put, zq10_s1, zq10_s2, zq10_s3, i64_w, i32_w]
           rfl
          refine pure_ (i := 14) (N := some 71) (v := ?_) (a' := ?_) zq10_m13 rfl rfl (any_of HT_.out (by kernel_rfl)) (fun _ _ _ h => h) (Or.inl ⟨by rfl, ?_⟩) ?_ ?_
          rotate_left
          ·intro w'
           go_simp
           with_reducible rfl
          rotate_left
          ·simp only [Act.put, zq10_s1, zq10_s2, zq10_s3, i64_w, i32_w]
           rfl
          refine pure_ (i := 15) (N := some 72) (v := ?_) (a' := ?_) zq10_m14 rfl rfl (any_of HT_.out (by kernel_rfl)) (fun _ _ _ h => h) (Or.inl ⟨by rfl, ?_⟩) ?_ ?_
          rotate_left
          ·intro w'
           go_simp
           with_reducible rfl
          rotate_left
          ·simp only [Act.put, zq10_s1, zq10_s2, zq10_s3, i64_w, i32_w]
           rfl
          refine take_ (i := 16) (N := some 73) (v := ?_) (a' := ?_) zq10_m15 rfl rfl (take_ofW HT_.out HW_.out (by kernel_rfl)) (fun _ _ _ h => h) (Or.inl ⟨by rfl, ?_⟩) hHeld ?_ ?_
          rotate_left
          ·rintro w' ⟨s0, s1, s2, s3, s4, s5, s6, s7, s8, s9, s10, s11, s12, s13, s14, s15⟩
           go_simp
           with_reducible rfl
          rotate_left
          ·simp only [Act.put, zq10_s1, zq10_s2, zq10_s3, i64_w, i32_w]
           rfl
          refine take_ (i := 17) (N := some 74) (v := ?_) (a' := ?_) zq10_m16 rfl rfl (take_ofW HT_.out HW_.out (by kernel_rfl)) (fun _ _ _ h => h) (Or.inl ⟨by rfl, ?_⟩) hHeld ?_ ?_
          rotate_left
          ·rintro w' ⟨s0, s1, s2, s3, s4, s5, s6, s7, s8, s9, s10, s11, s12, s13, s14, s15⟩
           go_simp
           with_reducible rfl
          rotate_left
          ·simp only [Act.put, zq10_s1, zq10_s2, zq10_s3, i64_w, i32_w]
           rfl
          refine one_ (i := 18) (N := some 75) zq10_m17 rfl rfl (one_of HT_.out (by kernel_rfl)) (by decide) (fun K hK => ?_)
          refine goes_ Try.func23 (by kernel_rfl) rfl #[.agg (zq10_c t260 t261 t262 t263 t264 t265 t266 t267), .agg (zq10_c t250 t251 t252 t253 t254 t255 t256 t257)] (by rfl) rfl rfl (by (try simp only [List.map_toArray, List.map_cons, List.map_nil]); first | done | rfl | (simp only [List.length_drop, List.length_take]; rfl)) ?_
          with_reducible refine (impl_CompareDate.calls kj6 t260 t261 t262 t263 t264 t265 t266 t267 t250 t251 t252 t253 t254 t255 t256 t257 t293 _ A61.out).mono ?_
          rintro e w97 ⟨rfl, hb⟩
          refine ⟨_, rfl, ?_⟩
          have n0_ := Aside0.mk (blk_below (g := gb259) (o := .cells (zq10_c t250 t251 t252 t253 t254 t255 t256 t257) 29 (0, 0)) (by (with_reducible repeat (first | refine blk_drewN ?_ _ | refine blk_drew ?_ | refine blk_alloc ?_ _)); exact BK259.out) hb)
          have n1_ := Aside0.mk (blk_below (g := gb269) (o := .cells (zq10_c t260 t261 t262 t263 t264 t265 t266 t267) 29 (0, 0)) (by (with_reducible repeat (first | refine blk_drewN ?_ _ | refine blk_drew ?_ | refine blk_alloc ?_ _)); exact BK269.out) hb)
          have n2_ := Aside0.mk (blk_below (g := gb279) (o := .cells (zq10_c t270 t271 t272 t273 t274 t275 t276 t277) 29 (0, 0)) (by (with_reducible repeat (first | refine blk_drewN ?_ _ | refine blk_drew ?_ | refine blk_alloc ?_ _)); exact BK279.out) hb)
          have n3_ := Aside0.mk (blk_below (g := gb289) (o := .cells (zq10_c t280 t281 t282 t283 t284 t285 t286 t287) 29 (0, 0)) (by (with_reducible repeat (first | refine blk_drewN ?_ _ | refine blk_drew ?_ | refine blk_alloc ?_ _)); exact BK289.out) hb)
          have n4_ := Aside0.mk (below_step (by repeat (first | (with_reducible first | exact HB.out | apply below_alloc | apply pw_below_drewN | apply below_drew1 | refine below_set ?_ GE259.out | refine below_set ?_ GE269.out | refine below_set ?_ GE279.out | refine below_set ?_ GE289.out) | exact HB.out)) hb)
          clear BK259
          clear BK269
          clear BK279
          clear BK289
          clear HB
          have BK259 := n0_
          have BK269 := n1_
          have BK279 := n2_
          have BK289 := n3_
          have HB := n4_
          clear n0_ n1_ n2_ n3_ n4_
          (try clear hb)
          (try clear hb2)
          (try clear hk)
          (try clear hi)
          refine hK.out _ _ ⟨(blk_cell BK269.out 0).trans rfl, (blk_cell BK269.out 1).trans rfl, (blk_cell BK269.out 2).trans rfl, (blk_cell BK269.out 3).trans rfl, (blk_cell BK269.out 4).trans rfl, (blk_cell BK269.out 5).trans rfl, (blk_cell BK269.out 6).trans rfl, (blk_cell BK269.out 7).trans rfl, (blk_cell BK259.out 0).trans rfl, (blk_cell BK259.out 1).trans rfl, (blk_cell BK259.out 2).trans rfl, (blk_cell BK259.out 3).trans rfl, (blk_cell BK259.out 4).trans rfl, (blk_cell BK259.out 5).trans rfl, (blk_cell BK259.out 6).trans rfl, (blk_cell BK259.out 7).trans rfl⟩ (fun hHeld => ?_)
          clear hK K
          refine norm_ (a' := ?_) ?_ ?_
          rotate_left
          ·show Act.put _ (some 75) _ = _
           simp only [Act.put, zq10_s1, zq10_s2, zq10_s3, i64_w, i32_w]
           rfl
          refine pure_ (i := 19) (N := some 76) (v := ?_) (a' := ?_) zq10_m18 rfl rfl (any_of HT_.out (by kernel_rfl)) (fun _ _ _ h => h) (Or.inl ⟨by rfl, ?_⟩) ?_ ?_
          rotate_left
          ·intro w'
           go_simp
           with_reducible rfl
          rotate_left
          ·simp only [Act.put, zq10_s1, zq10_s2, zq10_s3, i64_w, i32_w]
           rfl
          refine pure_ (i := 20) (N := some 77) (v := ?_) (a' := ?_) zq10_m19 rfl rfl (any_of HT_.out (by kernel_rfl)) (fun _ _ _ h => h) (Or.inl ⟨by rfl, ?_⟩) ?_ ?_
          rotate_left
          ·intro w'
           go_simp
           with_reducible rfl
          rotate_left
          ·simp only [Act.put, zq10_s1, zq10_s2, zq10_s3, i64_w, i32_w]
           rfl
          refine pure_ (i := 21) (N := some 78) (v := ?_) (a' := ?_) zq10_m20 rfl rfl (any_of HT_.out (by kernel_rfl)) (fun _ _ _ h => h) (Or.inl ⟨by rfl, ?_⟩) ?_ ?_
          rotate_left
          ·intro w'
           go_simp
           with_reducible rfl
          rotate_left
          ·simp only [Act.put, zq10_s1, zq10_s2, zq10_s3, i64_w, i32_w]
           rfl
          refine pure_ (i := 22) (N := some 79) (v := ?_) (a' := ?_) zq10_m21 rfl rfl (any_of HT_.out (by kernel_rfl)) (fun _ _ _ h => h) (Or.inl ⟨by rfl, ?_⟩) ?_ ?_
          rotate_left
          ·intro w'
           go_simp
           with_reducible rfl
          rotate_left
          ·simp only [Act.put, zq10_s1, zq10_s2, zq10_s3, i64_w, i32_w]
           rfl
          refine pure_ (i := 23) (N := some 80) (v := ?_) (a' := ?_) zq10_m22 rfl rfl (any_of HT_.out (by kernel_rfl)) (fun _ _ _ h => h) (Or.inl ⟨by rfl, ?_⟩) ?_ ?_
          rotate_left
          ·intro w'
           go_simp
           with_reducible rfl
          rotate_left
          ·simp only [Act.put, zq10_s1, zq10_s2, zq10_s3, i64_w, i32_w]
           rfl
          refine pure_ (i := 24) (N := some 81) (v := ?_) (a' := ?_) zq10_m23 rfl rfl (any_of HT_.out (by kernel_rfl)) (fun _ _ _ h => h) (Or.inl ⟨by rfl, ?_⟩) ?_ ?_
          rotate_left
          ·intro w'
           go_simp
           with_reducible rfl
          rotate_left
          ·simp only [Act.put, zq10_s1, zq10_s2, zq10_s3, i64_w, i32_w]
           rfl
          refine pure_ (i := 25) (N := some 82) (v := undef) (a' := ?_) zq10_m24 rfl rfl (any_of HT_.out (by kernel_rfl)) (fun _ _ _ h => h) (Or.inr ⟨by rfl, rfl⟩) ?_ ?_
          rotate_left
          ·simp only [Act.put, zq10_s1, zq10_s2, zq10_s3, i64_w, i32_w]
           rfl
          refine pure_ (i := 26) (N := some 83) (v := undef) (a' := ?_) zq10_m25 rfl rfl (any_of HT_.out (by kernel_rfl)) (fun _ _ _ h => h) (Or.inr ⟨by rfl, rfl⟩) ?_ ?_
          rotate_left
          ·simp only [Act.put, zq10_s1, zq10_s2, zq10_s3, i64_w, i32_w]
           rfl
          refine pure_ (i := 27) (N := some 84) (v := undef) (a' := ?_) zq10_m26 rfl rfl (any_of HT_.out (by kernel_rfl)) (fun _ _ _ h => h) (Or.inr ⟨by rfl, rfl⟩) ?_ ?_
          rotate_left
          ·simp only [Act.put, zq10_s1, zq10_s2, zq10_s3, i64_w, i32_w]
           rfl
          refine pure_ (i := 28) (N := some 85) (v := ?_) (a' := ?_) zq10_m27 rfl rfl (any_of HT_.out (by kernel_rfl)) (fun _ _ _ h => h) (Or.inl ⟨by rfl, ?_⟩) ?_ ?_
          rotate_left
          ·intro w'
           go_simp
           with_reducible rfl
          rotate_left
          ·simp only [Act.put, zq10_s1, zq10_s2, zq10_s3, i64_w, i32_w]
           rfl
          refine pure_ (i := 29) (N := some 2) (v := ?_) (a' := ?_) zq10_m28 rfl rfl (any_of HT_.out (by kernel_rfl)) (fun _ _ _ h => h) (Or.inl ⟨by rfl, ?_⟩) ?_ ?_
          rotate_left
          ·intro w'
           go_simp
           with_reducible rfl
          rotate_left
          ·simp only [Act.put, zq10_s1, zq10_s2, zq10_s3, i64_w, i32_w]
           rfl
          refine done_ (done_of HT_.out (by kernel_rfl)) ?_
          try go_wp2
          go_ret
          exact ⟨by first | rfl | (simp [*] <;> rfl), by repeat (first | (with_reducible first | exact HB.out | apply below_alloc | apply pw_below_drewN | apply below_drew1 | refine below_set ?_ GE259.out | refine below_set ?_ GE269.out | refine below_set ?_ GE279.out | refine below_set ?_ GE289.out) | exact HB.out)⟩
        ·rw [if_neg c62] at H
         have c62b0 : (t293 == 0) = false := beq_eq_false_iff_ne.mpr c62
         have c62b1 : (t293 != 0) = true := bne_iff_ne.mpr c62
         obtain rfl := Option.some.inj H
         have hnb98 := NB269_259.out
         have hnc98 := NB259_269.out
         have hnb99 := NB269_279.out
         have hnc99 := NB279_269.out
         have hcz100_0 : wc.cell? ⟨gb269, 0, none⟩ = some (.int .i64 t260) := (blk_cell BK269.out 0).trans rfl
         have hcz100_1 : wc.cell? ⟨gb269, 1, none⟩ = some (.int .i64 t261) := (blk_cell BK269.out 1).trans rfl
         have hcz100_2 : wc.cell? ⟨gb269, 2, none⟩ = some (.int .i64 t262) := (blk_cell BK269.out 2).trans rfl
         have hcz100_3 : wc.cell? ⟨gb269, 3, none⟩ = some (.int .i64 t263) := (blk_cell BK269.out 3).trans rfl
         have hcz100_4 : wc.cell? ⟨gb269, 4, none⟩ = some (.int .i64 t264) := (blk_cell BK269.out 4).trans rfl
         have hcz100_5 : wc.cell? ⟨gb269, 5, none⟩ = some (.int .i64 t265) := (blk_cell BK269.out 5).trans rfl
         have hcz100_6 : wc.cell? ⟨gb269, 6, none⟩ = some (.bool t266) := (blk_cell BK269.out 6).trans rfl
         have hcz100_7 : wc.cell? ⟨gb269, 7, none⟩ = some (.int .i64 t267) := (blk_cell BK269.out 7).trans rfl
         have hfz100_0 := blk_frozen BK269.out 0
         have hfz100_1 := blk_frozen BK269.out 1
         have hfz100_2 := blk_frozen BK269.out 2
         have hfz100_3 := blk_frozen BK269.out 3
         have hfz100_4 := blk_frozen BK269.out 4
         have hfz100_5 := blk_frozen BK269.out 5
         have hfz100_6 := blk_frozen BK269.out 6
         have hfz100_7 := blk_frozen BK269.out 7
         have hnb101 := NB259_279.out
         have hnc101 := NB279_259.out
         have hcz102_0 : wc.cell? ⟨gb259, 0, none⟩ = some (.int .i64 t250) := (blk_cell BK259.out 0).trans rfl
         have hcz102_1 : wc.cell? ⟨gb259, 1, none⟩ = some (.int .i64 t251) := (blk_cell BK259.out 1).trans rfl
         have hcz102_2 : wc.cell? ⟨gb259, 2, none⟩ = some (.int .i64 t252) := (blk_cell BK259.out 2).trans rfl
         have hcz102_3 : wc.cell? ⟨gb259, 3, none⟩ = some (.int .i64 t253) := (blk_cell BK259.out 3).trans rfl
         have hcz102_4 : wc.cell? ⟨gb259, 4, none⟩ = some (.int .i64 t254) := (blk_cell BK259.out 4).trans rfl
         have hcz102_5 : wc.cell? ⟨gb259, 5, none⟩ = some (.int .i64 t255) := (blk_cell BK259.out 5).trans rfl
         have hcz102_6 : wc.cell? ⟨gb259, 6, none⟩ = some (.bool t256) := (blk_cell BK259.out 6).trans rfl
         have hcz102_7 : wc.cell? ⟨gb259, 7, none⟩ = some (.int .i64 t257) := (blk_cell BK259.out 7).trans rfl
         have hfz102_0 := blk_frozen BK259.out 0
         have hfz102_1 := blk_frozen BK259.out 1
         have hfz102_2 := blk_frozen BK259.out 2
         have hfz102_3 := blk_frozen BK259.out 3
         have hfz102_4 := blk_frozen BK259.out 4
         have hfz102_5 := blk_frozen BK259.out 5
         have hfz102_6 := blk_frozen BK259.out 6
         have hfz102_7 := blk_frozen BK259.out 7
         try go_wp2_with (first | ((with_reducible refine gate_callee (f := 27) rfl ?_); refine goesL_ (some 54) rfl rfl Try.func27 (by kernel_rfl) rfl #[.agg (zq10_c t260 t261 t262 t263 t264 t265 t266 t267), .int .i64 t257] rfl (by (try simp only [List.map_toArray, List.map_cons, List.map_nil]); first | done | rfl | (simp only [List.length_drop, List.length_take]; rfl)) ?_; (with_reducible refine (impl_Shifted.calls kj6 t260 t261 t262 t263 t264 t265 t266 t267 t257 t280 t281 t282 t283 t284 t285 t286 t287 t288 _ A54.out).mono ?_); rintro e w103 ⟨rfl, hb⟩; refine ⟨_, rfl, ?_⟩; have n0_ := Aside0.mk (blk_below (g := gb259) (o := .cells (zq10_c t250 t251 t252 t253 t254 t255 t256 t257) 29 (0, 0)) (by (with_reducible repeat (first | refine blk_drewN ?_ _ | refine blk_drew ?_ | refine blk_alloc ?_ _)); exact BK259.out) hb); have n1_ := Aside0.mk (blk_below (g := gb269) (o := .cells (zq10_c t260 t261 t262 t263 t264 t265 t266 t267) 29 (0, 0)) (by (with_reducible repeat (first | refine blk_drewN ?_ _ | refine blk_drew ?_ | refine blk_alloc ?_ _)); exact BK269.out) hb); have n2_ := Aside0.mk (blk_below (g := gb279) (o := .cells (zq10_c t270 t271 t272 t273 t274 t275 t276 t277) 29 (0, 0)) (by (with_reducible repeat (first | refine blk_drewN ?_ _ | refine blk_drew ?_ | refine blk_alloc ?_ _)); exact BK279.out) hb); have n3_ := Aside0.mk (below_step (by repeat (first | (with_reducible first | exact HB.out | apply below_alloc | apply pw_below_drewN | apply below_drew1 | refine below_set ?_ GE259.out | refine below_set ?_ GE269.out | refine below_set ?_ GE279.out) | exact HB.out)) hb); clear BK259; clear BK269; clear BK279; clear HB; have BK259 := n0_; have BK269 := n1_; have BK279 := n2_; have HB := n3_; clear n0_ n1_ n2_ n3_; (try clear hb); (try clear hb2); (try clear hk); (try clear hi)) | ((with_reducible refine gate_dst (N := 9) rfl ?_); refine box_event ?hg (N := 9) ?hd (cs := #[.int .i64 0, .int .i64 0, .int .i64 0, .int .i64 0, .int .i64 0, .int .i64 0, .bool false, .int .i64 0]) (t := 29) ?hr ?_; (case hd => rfl); (case hg => rfl); (case hr => first | (go_simp; done) | (go_simp; rfl)); intro gb289 hg w104 hbox hb; have n0_ := Aside0.mk (blk_below (g := gb259) (o := .cells (zq10_c t250 t251 t252 t253 t254 t255 t256 t257) 29 (0, 0)) (by (with_reducible repeat (first | refine blk_drewN ?_ _ | refine blk_drew ?_ | refine blk_alloc ?_ _)); exact BK259.out) hb); have n1_ := Aside0.mk (blk_below (g := gb269) (o := .cells (zq10_c t260 t261 t262 t263 t264 t265 t266 t267) 29 (0, 0)) (by (with_reducible repeat (first | refine blk_drewN ?_ _ | refine blk_drew ?_ | refine blk_alloc ?_ _)); exact BK269.out) hb); have n2_ := Aside0.mk (blk_below (g := gb279) (o := .cells (zq10_c t270 t271 t272 t273 t274 t275 t276 t277) 29 (0, 0)) (by (with_reducible repeat (first | refine blk_drewN ?_ _ | refine blk_drew ?_ | refine blk_alloc ?_ _)); exact BK279.out) hb); have n3_ := Aside0.mk (below_step (by repeat (first | (with_reducible first | exact HB.out | apply below_alloc | apply pw_below_drewN | apply below_drew1 | refine below_set ?_ GE259.out | refine below_set ?_ GE269.out | refine below_set ?_ GE279.out) | exact HB.out)) hb); have n4_ := Aside0.mk (hbox); have n5_ := Aside0.mk ((by rw [hg]; exact (below_size (by repeat (first | (with_reducible first | exact HB.out | apply below_alloc | apply pw_below_drewN | apply below_drew1 | refine below_set ?_ GE259.out | refine below_set ?_ GE269.out | refine below_set ?_ GE279.out) | exact HB.out))) : w.heap.size ≤ gb289)); have n6_ := Aside0.mk ((by rw [hg]; exact (below_size (by repeat (first | (with_reducible first | exact HB.out | apply below_alloc | apply pw_below_drewN | apply below_drew1 | refine below_set ?_ GE259.out | refine below_set ?_ GE269.out | refine below_set ?_ GE279.out) | exact HB.out))) : w.heap.size ≤ gb289)); have n7_ := Aside0.mk ((by rw [hg]; exact Nat.ne_of_lt (blk_lt (g := gb259) (o := .cells (zq10_c t250 t251 t252 t253 t254 t255 t256 t257) 29 (0, 0)) (by (with_reducible repeat (first | refine blk_drewN ?_ _ | refine blk_drew ?_ | refine blk_alloc ?_ _)); exact BK259.out)) : gb259 ≠ gb289)); have n8_ := Aside0.mk ((by rw [hg]; exact Nat.ne_of_gt (blk_lt (g := gb259) (o := .cells (zq10_c t250 t251 t252 t253 t254 t255 t256 t257) 29 (0, 0)) (by (with_reducible repeat (first | refine blk_drewN ?_ _ | refine blk_drew ?_ | refine blk_alloc ?_ _)); exact BK259.out)) : gb289 ≠ gb259)); have n9_ := Aside0.mk ((by rw [hg]; exact Nat.ne_of_lt (blk_lt (g := gb269) (o := .cells (zq10_c t260 t261 t262 t263 t264 t265 t266 t267) 29 (0, 0)) (by (with_reducible repeat (first | refine blk_drewN ?_ _ | refine blk_drew ?_ | refine blk_alloc ?_ _)); exact BK269.out)) : gb269 ≠ gb289)); have n10_ := Aside0.mk ((by rw [hg]; exact Nat.ne_of_gt (blk_lt (g := gb269) (o := .cells (zq10_c t260 t261 t262 t263 t264 t265 t266 t267) 29 (0, 0)) (by (with_reducible repeat (first | refine blk_drewN ?_ _ | refine blk_drew ?_ | refine blk_alloc ?_ _)); exact BK269.out)) : gb289 ≠ gb269)); have n11_ := Aside0.mk ((by rw [hg]; exact Nat.ne_of_lt (blk_lt (g := gb279) (o := .cells (zq10_c t270 t271 t272 t273 t274 t275 t276 t277) 29 (0, 0)) (by (with_reducible repeat (first | refine blk_drewN ?_ _ | refine blk_drew ?_ | refine blk_alloc ?_ _)); exact BK279.out)) : gb279 ≠ gb289)); have n12_ := Aside0.mk ((by rw [hg]; exact Nat.ne_of_gt (blk_lt (g := gb279) (o := .cells (zq10_c t270 t271 t272 t273 t274 t275 t276 t277) 29 (0, 0)) (by (with_reducible repeat (first | refine blk_drewN ?_ _ | refine blk_drew ?_ | refine blk_alloc ?_ _)); exact BK279.out)) : gb289 ≠ gb279)); clear BK259; clear BK269; clear BK279; clear HB; have BK259 := n0_; have BK269 := n1_; have BK279 := n2_; have HB := n3_; have BK289 := n4_; have GW289 := n5_; have GE289 := n6_; have NB259_289 := n7_; have NB289_259 := n8_; have NB269_289 := n9_; have NB289_269 := n10_; have NB279_289 := n11_; have NB289_279 := n12_; clear n0_ n1_ n2_ n3_ n4_ n5_ n6_ n7_ n8_ n9_ n10_ n11_ n12_; clear hb hbox hg; have hnb105 := NB289_259.out; have hnc105 := NB259_289.out; have hnb106 := NB289_269.out; have hnc106 := NB269_289.out; have hnb107 := NB289_279.out; have hnc107 := NB279_289.out; have hcz108_0 : w104.cell? ⟨gb289, 0, none⟩ = some (.int .i64 0) := (blk_cell BK289.out 0).trans rfl; have hcz108_1 : w104.cell? ⟨gb289, 1, none⟩ = some (.int .i64 0) := (blk_cell BK289.out 1).trans rfl; have hcz108_2 : w104.cell? ⟨gb289, 2, none⟩ = some (.int .i64 0) := (blk_cell BK289.out 2).trans rfl; have hcz108_3 : w104.cell? ⟨gb289, 3, none⟩ = some (.int .i64 0) := (blk_cell BK289.out 3).trans rfl; have hcz108_4 : w104.cell? ⟨gb289, 4, none⟩ = some (.int .i64 0) := (blk_cell BK289.out 4).trans rfl; have hcz108_5 : w104.cell? ⟨gb289, 5, none⟩ = some (.int .i64 0) := (blk_cell BK289.out 5).trans rfl; have hcz108_6 : w104.cell? ⟨gb289, 6, none⟩ = some (.bool false) := (blk_cell BK289.out 6).trans rfl; have hcz108_7 : w104.cell? ⟨gb289, 7, none⟩ = some (.int .i64 0) := (blk_cell BK289.out 7).trans rfl; have hfz108_0 := blk_frozen BK289.out 0; have hfz108_1 := blk_frozen BK289.out 1; have hfz108_2 := blk_frozen BK289.out 2; have hfz108_3 := blk_frozen BK289.out 3; have hfz108_4 := blk_frozen BK289.out 4; have hfz108_5 := blk_frozen BK289.out 5; have hfz108_6 := blk_frozen BK289.out 6; have hfz108_7 := blk_frozen BK289.out 7) | ((with_reducible refine gate_store (t := 29) (p := 9) rfl ?_); refine store_event (t := 29) (p := 9) (v := ?vo_w109) (w1 := ((((((((w104.setCell ⟨gb289, 0, none⟩ (.int .i64 t280)).setCell ⟨gb289, 1, none⟩ (.int .i64 t281)).setCell ⟨gb289, 2, none⟩ (.int .i64 t282)).setCell ⟨gb289, 3, none⟩ (.int .i64 t283)).setCell ⟨gb289, 4, none⟩ (.int .i64 t284)).setCell ⟨gb289, 5, none⟩ (.int .i64 t285)).setCell ⟨gb289, 6, none⟩ (.bool t286)).setCell ⟨gb289, 7, none⟩ (.int .i64 t287))) ?hg ?ho ?hn ?hr ?_; (case ho => rfl); (case hg => rfl); (case hn => rfl); (case hr => first | (go_simp; done) | (go_simp; rfl)); intro w109 hw; have n0_ : Aside0 (w109.heap[gb259]? = some (.cells (zq10_c t250 t251 t252 t253 t254 t255 t256 t257) 29 (0, 0))) := ⟨(by rw [hw]; exact (by (with_reducible repeat (first | refine blk_drewN ?_ _ | refine blk_drew ?_ | refine blk_alloc ?_ _ | refine blk_far ?_ NB259_289.out _)); (with_reducible repeat (first | refine blk_drewN ?_ _ | refine blk_drew ?_ | refine blk_alloc ?_ _)); exact BK259.out))⟩; have n1_ : Aside0 (w109.heap[gb269]? = some (.cells (zq10_c t260 t261 t262 t263 t264 t265 t266 t267) 29 (0, 0))) := ⟨(by rw [hw]; exact (by (with_reducible repeat (first | refine blk_drewN ?_ _ | refine blk_drew ?_ | refine blk_alloc ?_ _ | refine blk_far ?_ NB269_289.out _)); (with_reducible repeat (first | refine blk_drewN ?_ _ | refine blk_drew ?_ | refine blk_alloc ?_ _)); exact BK269.out))⟩; have n2_ : Aside0 (w109.heap[gb279]? = some (.cells (zq10_c t270 t271 t272 t273 t274 t275 t276 t277) 29 (0, 0))) := ⟨(by rw [hw]; exact (by (with_reducible repeat (first | refine blk_drewN ?_ _ | refine blk_drew ?_ | refine blk_alloc ?_ _ | refine blk_far ?_ NB279_289.out _)); (with_reducible repeat (first | refine blk_drewN ?_ _ | refine blk_drew ?_ | refine blk_alloc ?_ _)); exact BK279.out))⟩; have n3_ : Aside0 (w109.heap[gb289]? = some (.cells (zq10_c t280 t281 t282 t283 t284 t285 t286 t287) 29 (0, 0))) := ⟨(by rw [hw]; exact (by (with_reducible repeat (first | refine blk_drewN ?_ _ | refine blk_drew ?_ | refine blk_alloc ?_ _)); refine zq10_put8 (cs := #[.int .i64 0, .int .i64 0, .int .i64 0, .int .i64 0, .int .i64 0, .int .i64 0, .bool false, .int .i64 0]) ?_ rfl; (with_reducible repeat (first | refine blk_drewN ?_ _ | refine blk_drew ?_ | refine blk_alloc ?_ _)); exact BK289.out))⟩; have n4_ : Aside0 (Below w.heap.size w w109) := ⟨(by rw [hw]; exact (by repeat (first | (with_reducible first | exact HB.out | apply below_alloc | apply pw_below_drewN | apply below_drew1 | refine below_set ?_ GE259.out | refine below_set ?_ GE269.out | refine below_set ?_ GE279.out | refine below_set ?_ GE289.out) | exact HB.out)))⟩; clear hw; clear BK259; clear BK269; clear BK279; clear BK289; clear HB; have BK259 := n0_; have BK269 := n1_; have BK279 := n2_; have BK289 := n3_; have HB := n4_; clear n0_ n1_ n2_ n3_ n4_))
         have n0_ := Aside0.mk (blk_drew BK259.out)
         have n1_ := Aside0.mk (blk_drew BK269.out)
         have n2_ := Aside0.mk (blk_drew BK279.out)
         have n3_ := Aside0.mk (blk_drew BK289.out)
         have n4_ := Aside0.mk (below_drew1 HB.out)
         clear BK259
         clear BK269
         clear BK279
         clear BK289
         clear HB
         have BK259 := n0_
         have BK269 := n1_
         have BK279 := n2_
         have BK289 := n3_
         have HB := n4_
         clear n0_ n1_ n2_ n3_ n4_
         refine start_ (n := 30) (S := fun w' => w'.cell? ⟨gb269, 0, none⟩ = some (.int .i64 t260) ∧ w'.cell? ⟨gb269, 1, none⟩ = some (.int .i64 t261) ∧ w'.cell? ⟨gb269, 2, none⟩ = some (.int .i64 t262) ∧ w'.cell? ⟨gb269, 3, none⟩ = some (.int .i64 t263) ∧ w'.cell? ⟨gb269, 4, none⟩ = some (.int .i64 t264) ∧ w'.cell? ⟨gb269, 5, none⟩ = some (.int .i64 t265) ∧ w'.cell? ⟨gb269, 6, none⟩ = some (.bool t266) ∧ w'.cell? ⟨gb269, 7, none⟩ = some (.int .i64 t267) ∧ w'.cell? ⟨gb259, 0, none⟩ = some (.int .i64 t250) ∧ w'.cell? ⟨gb259, 1, none⟩ = some (.int .i64 t251) ∧ w'.cell? ⟨gb259, 2, none⟩ = some (.int .i64 t252) ∧ w'.cell? ⟨gb259, 3, none⟩ = some (.int .i64 t253) ∧ w'.cell? ⟨gb259, 4, none⟩ = some (.int .i64 t254) ∧ w'.cell? ⟨gb259, 5, none⟩ = some (.int .i64 t255) ∧ w'.cell? ⟨gb259, 6, none⟩ = some (.bool t256) ∧ w'.cell? ⟨gb259, 7, none⟩ = some (.int .i64 t257)) (ds := []) zq10_m0 (by kernel_rfl) rfl rfl ⟨(blk_cell BK269.out 0).trans rfl, (blk_cell BK269.out 1).trans rfl, (blk_cell BK269.out 2).trans rfl, (blk_cell BK269.out 3).trans rfl, (blk_cell BK269.out 4).trans rfl, (blk_cell BK269.out 5).trans rfl, (blk_cell BK269.out 6).trans rfl, (blk_cell BK269.out 7).trans rfl, (blk_cell BK259.out 0).trans rfl, (blk_cell BK259.out 1).trans rfl, (blk_cell BK259.out 2).trans rfl, (blk_cell BK259.out 3).trans rfl, (blk_cell BK259.out 4).trans rfl, (blk_cell BK259.out 5).trans rfl, (blk_cell BK259.out 6).trans rfl, (blk_cell BK259.out 7).trans rfl⟩ (fun hHeld => ?_); refine with_tabW laws_FnShifted.tab9 laws_FnShifted.bits9 (fun HT_ HW_ => ?_)
         generalize w109.drew = w110 at BK259 BK269 BK279 BK289 HB hHeld ⊢
         refine take_ (i := 0) (N := some 57) (v := ?_) (a' := ?_) zq10_m1 rfl rfl (take_ofW HT_.out HW_.out (by kernel_rfl)) (fun _ _ _ h => h) (Or.inl ⟨by rfl, ?_⟩) hHeld ?_ ?_
         rotate_left
         ·rintro w' ⟨s0, s1, s2, s3, s4, s5, s6, s7, s8, s9, s10, s11, s12, s13, s14, s15⟩
          go_simp
          with_reducible rfl
         rotate_left
         ·simp only [Act.put, zq10_s1, zq10_s2, zq10_s3, i64_w, i32_w]
          rfl
         refine one_ (i := 1) (N := some 58) zq10_m2 rfl rfl (one_of HT_.out (by kernel_rfl)) (by decide) (fun K hK => ?_)
         refine goes_ Try.func19 (by kernel_rfl) rfl #[.agg (zq10_c t260 t261 t262 t263 t264 t265 t266 t267)] (by rfl) rfl rfl (by (try simp only [List.map_toArray, List.map_cons, List.map_nil]); first | done | rfl | (simp only [List.length_drop, List.length_take]; rfl)) ?_
         with_reducible refine (impl_DateOk.calls t260 t261 t262 t263 t264 t265 t266 t267 true _ A55.out).mono ?_
         rintro e w111 ⟨rfl, hb⟩
         refine ⟨_, rfl, ?_⟩
         have n0_ := Aside0.mk (blk_below (g := gb259) (o := .cells (zq10_c t250 t251 t252 t253 t254 t255 t256 t257) 29 (0, 0)) (by (with_reducible repeat (first | refine blk_drewN ?_ _ | refine blk_drew ?_ | refine blk_alloc ?_ _)); exact BK259.out) hb)
         have n1_ := Aside0.mk (blk_below (g := gb269) (o := .cells (zq10_c t260 t261 t262 t263 t264 t265 t266 t267) 29 (0, 0)) (by (with_reducible repeat (first | refine blk_drewN ?_ _ | refine blk_drew ?_ | refine blk_alloc ?_ _)); exact BK269.out) hb)
         have n2_ := Aside0.mk (blk_below (g := gb279) (o := .cells (zq10_c t270 t271 t272 t273 t274 t275 t276 t277) 29 (0, 0)) (by (with_reducible repeat (first | refine blk_drewN ?_ _ | refine blk_drew ?_ | refine blk_alloc ?_ _)); exact BK279.out) hb)
         have n3_ := Aside0.mk (blk_below (g := gb289) (o := .cells (zq10_c t280 t281 t282 t283 t284 t285 t286 t287) 29 (0, 0)) (by (with_reducible repeat (first | refine blk_drewN ?_ _ | refine blk_drew ?_ | refine blk_alloc ?_ _)); exact BK289.out) hb)
         have n4_ := Aside0.mk (below_step (by repeat (first | (with_reducible first | exact HB.out | apply below_alloc | apply pw_below_drewN | apply below_drew1 | refine below_set ?_ GE259.out | refine below_set ?_ GE269.out | refine below_set ?_ GE279.out | refine below_set ?_ GE289.out) | exact HB.out)) hb)
         clear BK259
         clear BK269
         clear BK279
         clear BK289
         clear HB
         have BK259 := n0_
         have BK269 := n1_
         have BK279 := n2_
         have BK289 := n3_
         have HB := n4_
         clear n0_ n1_ n2_ n3_ n4_
         (try clear hb)
         (try clear hb2)
         (try clear hk)
         (try clear hi)
         refine hK.out _ _ ⟨(blk_cell BK269.out 0).trans rfl, (blk_cell BK269.out 1).trans rfl, (blk_cell BK269.out 2).trans rfl, (blk_cell BK269.out 3).trans rfl, (blk_cell BK269.out 4).trans rfl, (blk_cell BK269.out 5).trans rfl, (blk_cell BK269.out 6).trans rfl, (blk_cell BK269.out 7).trans rfl, (blk_cell BK259.out 0).trans rfl, (blk_cell BK259.out 1).trans rfl, (blk_cell BK259.out 2).trans rfl, (blk_cell BK259.out 3).trans rfl, (blk_cell BK259.out 4).trans rfl, (blk_cell BK259.out 5).trans rfl, (blk_cell BK259.out 6).trans rfl, (blk_cell BK259.out 7).trans rfl⟩ (fun hHeld => ?_)
         clear hK K
         refine norm_ (a' := ?_) ?_ ?_
         rotate_left
         ·show Act.put _ (some 58) _ = _
          simp only [Act.put, zq10_s1, zq10_s2, zq10_s3, i64_w, i32_w]
          rfl
         refine pure_ (i := 2) (N := some 59) (v := ?_) (a' := ?_) zq10_m3 rfl rfl (any_of HT_.out (by kernel_rfl)) (fun _ _ _ h => h) (Or.inl ⟨by rfl, ?_⟩) ?_ ?_
         rotate_left
         ·intro w'
          go_simp
          with_reducible rfl
         rotate_left
         ·simp only [Act.put, zq10_s1, zq10_s2, zq10_s3, i64_w, i32_w]
          rfl
         refine pure_ (i := 3) (N := some 60) (v := ?_) (a' := ?_) zq10_m4 rfl rfl (any_of HT_.out (by kernel_rfl)) (fun _ _ _ h => h) (Or.inl ⟨by rfl, ?_⟩) ?_ ?_
         rotate_left
         ·intro w'
          go_simp
          with_reducible rfl
         rotate_left
         ·simp only [Act.put, zq10_s1, zq10_s2, zq10_s3, i64_w, i32_w]
          rfl
         refine pure_ (i := 5) (N := some 62) (v := ?_) (a' := ?_) zq10_m29 rfl rfl (any_of HT_.out (by kernel_rfl)) (fun _ _ _ h => h) (Or.inl ⟨by rfl, ?_⟩) ?_ ?_
         rotate_left
         ·intro w'
          go_simp
          with_reducible rfl
         rotate_left
         ·simp only [Act.put, zq10_s1, zq10_s2, zq10_s3, i64_w, i32_w]
          rfl
         refine take_ (i := 4) (N := some 61) (v := ?_) (a' := ?_) zq10_m5 rfl rfl (take_ofW HT_.out HW_.out (by kernel_rfl)) (fun _ _ _ h => h) (Or.inl ⟨by rfl, ?_⟩) hHeld ?_ ?_
         rotate_left
         ·rintro w' ⟨s0, s1, s2, s3, s4, s5, s6, s7, s8, s9, s10, s11, s12, s13, s14, s15⟩
          go_simp
          with_reducible rfl
         rotate_left
         ·simp only [Act.put, zq10_s1, zq10_s2, zq10_s3, i64_w, i32_w]
          rfl
         refine pure_ (i := 6) (N := some 63) (v := ?_) (a' := ?_) zq10_m6 rfl rfl (any_of HT_.out (by kernel_rfl)) (fun _ _ _ h => h) (Or.inl ⟨by rfl, ?_⟩) ?_ ?_
         rotate_left
         ·intro w'
          go_simp
          with_reducible rfl
         rotate_left
         ·simp only [Act.put, zq10_s1, zq10_s2, zq10_s3, i64_w, i32_w]
          rfl
         refine pure_ (i := 7) (N := some 64) (v := ?_) (a' := ?_) zq10_m7 rfl rfl (any_of HT_.out (by kernel_rfl)) (fun _ _ _ h => h) (Or.inl ⟨by rfl, ?_⟩) ?_ ?_
         rotate_left
         ·intro w'
          go_simp
          with_reducible rfl
         rotate_left
         ·simp only [Act.put, zq10_s1, zq10_s2, zq10_s3, i64_w, i32_w]
          rfl
         refine pure_ (i := 8) (N := some 65) (v := ?_) (a' := ?_) zq10_m8 rfl rfl (any_of HT_.out (by kernel_rfl)) (fun _ _ _ h => h) (Or.inl ⟨by rfl, ?_⟩) ?_ ?_
         rotate_left
         ·intro w'
          go_simp
          with_reducible rfl
         rotate_left
         ·simp only [Act.put, zq10_s1, zq10_s2, zq10_s3, i64_w, i32_w]
          rfl
         refine take_ (i := 9) (N := some 66) (v := ?_) (a' := ?_) zq10_m9 rfl rfl (take_ofW HT_.out HW_.out (by kernel_rfl)) (fun _ _ _ h => h) (Or.inl ⟨by rfl, ?_⟩) hHeld ?_ ?_
         rotate_left
         ·rintro w' ⟨s0, s1, s2, s3, s4, s5, s6, s7, s8, s9, s10, s11, s12, s13, s14, s15⟩
          go_simp
          with_reducible rfl
         rotate_left
         ·simp only [Act.put, zq10_s1, zq10_s2, zq10_s3, i64_w, i32_w]
          rfl
         refine take_ (i := 11) (N := some 68) (v := ?_) (a' := ?_) zq10_m30 rfl rfl (take_ofW HT_.out HW_.out (by kernel_rfl)) (fun _ _ _ h => h) (Or.inl ⟨by rfl, ?_⟩) hHeld ?_ ?_
         rotate_left
         ·rintro w' ⟨s0, s1, s2, s3, s4, s5, s6, s7, s8, s9, s10, s11, s12, s13, s14, s15⟩
          go_simp
          with_reducible rfl
         rotate_left
         ·simp only [Act.put, zq10_s1, zq10_s2, zq10_s3, i64_w, i32_w]
          rfl
         refine one_ (i := 10) (N := some 67) zq10_m10 rfl rfl (one_of HT_.out (by kernel_rfl)) (by decide) (fun K hK => ?_)
         refine goes_ Try.func21 (by kernel_rfl) rfl #[.agg (zq10_c t260 t261 t262 t263 t264 t265 t266 t267)] (by rfl) rfl rfl (by (try simp only [List.map_toArray, List.map_cons, List.map_nil]); first | done | rfl | (simp only [List.length_drop, List.length_take]; rfl)) ?_
         with_reducible refine (impl_SecondsOf.calls kj6 t260 t261 t262 t263 t264 t265 t266 t267 t291 _ A58.out).mono ?_
         rintro e w112 ⟨rfl, hb⟩
         refine ⟨_, rfl, ?_⟩
         have n0_ := Aside0.mk (blk_below (g := gb259) (o := .cells (zq10_c t250 t251 t252 t253 t254 t255 t256 t257) 29 (0, 0)) (by (with_reducible repeat (first | refine blk_drewN ?_ _ | refine blk_drew ?_ | refine blk_alloc ?_ _)); exact BK259.out) hb)
         have n1_ := Aside0.mk (blk_below (g := gb269) (o := .cells (zq10_c t260 t261 t262 t263 t264 t265 t266 t267) 29 (0, 0)) (by (with_reducible repeat (first | refine blk_drewN ?_ _ | refine blk_drew ?_ | refine blk_alloc ?_ _)); exact BK269.out) hb)
         have n2_ := Aside0.mk (blk_below (g := gb279) (o := .cells (zq10_c t270 t271 t272 t273 t274 t275 t276 t277) 29 (0, 0)) (by (with_reducible repeat (first | refine blk_drewN ?_ _ | refine blk_drew ?_ | refine blk_alloc ?_ _)); exact BK279.out) hb)
         have n3_ := Aside0.mk (blk_below (g := gb289) (o := .cells (zq10_c t280 t281 t282 t283 t284 t285 t286 t287) 29 (0, 0)) (by (with_reducible repeat (first | refine blk_drewN ?_ _ | refine blk_drew ?_ | refine blk_alloc ?_ _)); exact BK289.out) hb)
         have n4_ := Aside0.mk (below_step (by repeat (first | (with_reducible first | exact HB.out | apply below_alloc | apply pw_below_drewN | apply below_drew1 | refine below_set ?_ GE259.out | refine below_set ?_ GE269.out | refine below_set ?_ GE279.out | refine below_set ?_ GE289.out) | exact HB.out)) hb)
         clear BK259
         clear BK269
         clear BK279
         clear BK289
         clear HB
         have BK259 := n0_
         have BK269 := n1_
         have BK279 := n2_
         have BK289 := n3_
         have HB := n4_
         clear n0_ n1_ n2_ n3_ n4_
         (try clear hb)
         (try clear hb2)
         (try clear hk)
         (try clear hi)
         refine hK.out _ _ ⟨(blk_cell BK269.out 0).trans rfl, (blk_cell BK269.out 1).trans rfl, (blk_cell BK269.out 2).trans rfl, (blk_cell BK269.out 3).trans rfl, (blk_cell BK269.out 4).trans rfl, (blk_cell BK269.out 5).trans rfl, (blk_cell BK269.out 6).trans rfl, (blk_cell BK269.out 7).trans rfl, (blk_cell BK259.out 0).trans rfl, (blk_cell BK259.out 1).trans rfl, (blk_cell BK259.out 2).trans rfl, (blk_cell BK259.out 3).trans rfl, (blk_cell BK259.out 4).trans rfl, (blk_cell BK259.out 5).trans rfl, (blk_cell BK259.out 6).trans rfl, (blk_cell BK259.out 7).trans rfl⟩ (fun hHeld => ?_)
         clear hK K
         refine norm_ (a' := ?_) ?_ ?_
         rotate_left
         ·show Act.put _ (some 67) _ = _
          simp only [Act.put, zq10_s1, zq10_s2, zq10_s3, i64_w, i32_w]
          rfl
         refine one_ (i := 12) (N := some 69) zq10_m11 rfl rfl (one_of HT_.out (by kernel_rfl)) (by decide) (fun K hK => ?_)
         refine goes_ Try.func21 (by kernel_rfl) rfl #[.agg (zq10_c t250 t251 t252 t253 t254 t255 t256 t257)] (by rfl) rfl rfl (by (try simp only [List.map_toArray, List.map_cons, List.map_nil]); first | done | rfl | (simp only [List.length_drop, List.length_take]; rfl)) ?_
         with_reducible refine (impl_SecondsOf.calls kj6 t250 t251 t252 t253 t254 t255 t256 t257 t292 _ A59.out).mono ?_
         rintro e w113 ⟨rfl, hb⟩
         refine ⟨_, rfl, ?_⟩
         have n0_ := Aside0.mk (blk_below (g := gb259) (o := .cells (zq10_c t250 t251 t252 t253 t254 t255 t256 t257) 29 (0, 0)) (by (with_reducible repeat (first | refine blk_drewN ?_ _ | refine blk_drew ?_ | refine blk_alloc ?_ _)); exact BK259.out) hb)
         have n1_ := Aside0.mk (blk_below (g := gb269) (o := .cells (zq10_c t260 t261 t262 t263 t264 t265 t266 t267) 29 (0, 0)) (by (with_reducible repeat (first | refine blk_drewN ?_ _ | refine blk_drew ?_ | refine blk_alloc ?_ _)); exact BK269.out) hb)
         have n2_ := Aside0.mk (blk_below (g := gb279) (o := .cells (zq10_c t270 t271 t272 t273 t274 t275 t276 t277) 29 (0, 0)) (by (with_reducible repeat (first | refine blk_drewN ?_ _ | refine blk_drew ?_ | refine blk_alloc ?_ _)); exact BK279.out) hb)
         have n3_ := Aside0.mk (blk_below (g := gb289) (o := .cells (zq10_c t280 t281 t282 t283 t284 t285 t286 t287) 29 (0, 0)) (by (with_reducible repeat (first | refine blk_drewN ?_ _ | refine blk_drew ?_ | refine blk_alloc ?_ _)); exact BK289.out) hb)
         have n4_ := Aside0.mk (below_step (by repeat (first | (with_reducible first | exact HB.out | apply below_alloc | apply pw_below_drewN | apply below_drew1 | refine below_set ?_ GE259.out | refine below_set ?_ GE269.out | refine below_set ?_ GE279.out | refine below_set ?_ GE289.out) | exact HB.out)) hb)
         clear BK259
         clear BK269
         clear BK279
         clear BK289
         clear HB
         have BK259 := n0_
         have BK269 := n1_
         have BK279 := n2_
         have BK289 := n3_
         have HB := n4_
         clear n0_ n1_ n2_ n3_ n4_
         (try clear hb)
         (try clear hb2)
         (try clear hk)
         (try clear hi)
         refine hK.out _ _ ⟨(blk_cell BK269.out 0).trans rfl, (blk_cell BK269.out 1).trans rfl, (blk_cell BK269.out 2).trans rfl, (blk_cell BK269.out 3).trans rfl, (blk_cell BK269.out 4).trans rfl, (blk_cell BK269.out 5).trans rfl, (blk_cell BK269.out 6).trans rfl, (blk_cell BK269.out 7).trans rfl, (blk_cell BK259.out 0).trans rfl, (blk_cell BK259.out 1).trans rfl, (blk_cell BK259.out 2).trans rfl, (blk_cell BK259.out 3).trans rfl, (blk_cell BK259.out 4).trans rfl, (blk_cell BK259.out 5).trans rfl, (blk_cell BK259.out 6).trans rfl, (blk_cell BK259.out 7).trans rfl⟩ (fun hHeld => ?_)
         clear hK K
         refine norm_ (a' := ?_) ?_ ?_
         rotate_left
         ·show Act.put _ (some 69) _ = _
          simp only [Act.put, zq10_s1, zq10_s2, zq10_s3, i64_w, i32_w]
          rfl
         refine pure_ (i := 13) (N := some 70) (v := ?_) (a' := ?_) zq10_m12 rfl rfl (any_of HT_.out (by kernel_rfl)) (fun _ _ _ h => h) (Or.inl ⟨by rfl, ?_⟩) ?_ ?_
         rotate_left
         ·intro w'
          go_simp
          with_reducible rfl
         rotate_left
         ·simp only [Act.put, zq10_s1, zq10_s2, zq10_s3, i64_w, i32_w]
          rfl
         refine pure_ (i := 14) (N := some 71) (v := ?_) (a' := ?_) zq10_m13 rfl rfl (any_of HT_.out (by kernel_rfl)) (fun _ _ _ h => h) (Or.inl ⟨by rfl, ?_⟩) ?_ ?_
         rotate_left
         ·intro w'
          go_simp
          with_reducible rfl
         rotate_left
         ·simp only [Act.put, zq10_s1, zq10_s2, zq10_s3, i64_w, i32_w]
          rfl
         refine pure_ (i := 15) (N := some 72) (v := ?_) (a' := ?_) zq10_m14 rfl rfl (any_of HT_.out (by kernel_rfl)) (fun _ _ _ h => h) (Or.inl ⟨by rfl, ?_⟩) ?_ ?_
         rotate_left
         ·intro w'
          go_simp
          with_reducible rfl
         rotate_left
         ·simp only [Act.put, zq10_s1, zq10_s2, zq10_s3, i64_w, i32_w]
          rfl
         refine take_ (i := 16) (N := some 73) (v := ?_) (a' := ?_) zq10_m15 rfl rfl (take_ofW HT_.out HW_.out (by kernel_rfl)) (fun _ _ _ h => h) (Or.inl ⟨by rfl, ?_⟩) hHeld ?_ ?_
         rotate_left
         ·rintro w' ⟨s0, s1, s2, s3, s4, s5, s6, s7, s8, s9, s10, s11, s12, s13, s14, s15⟩
          go_simp
          with_reducible rfl
         rotate_left
         ·simp only [Act.put, zq10_s1, zq10_s2, zq10_s3, i64_w, i32_w]
          rfl
         refine take_ (i := 17) (N := some 74) (v := ?_) (a' := ?_) zq10_m16 rfl rfl (take_ofW HT_.out HW_.out (by kernel_rfl)) (fun _ _ _ h => h) (Or.inl ⟨by rfl, ?_⟩) hHeld ?_ ?_
         rotate_left
         ·rintro w' ⟨s0, s1, s2, s3, s4, s5, s6, s7, s8, s9, s10, s11, s12, s13, s14, s15⟩
          go_simp
          with_reducible rfl
         rotate_left
         ·simp only [Act.put, zq10_s1, zq10_s2, zq10_s3, i64_w, i32_w]
          rfl
         refine one_ (i := 18) (N := some 75) zq10_m17 rfl rfl (one_of HT_.out (by kernel_rfl)) (by decide) (fun K hK => ?_)
         refine goes_ Try.func23 (by kernel_rfl) rfl #[.agg (zq10_c t260 t261 t262 t263 t264 t265 t266 t267), .agg (zq10_c t250 t251 t252 t253 t254 t255 t256 t257)] (by rfl) rfl rfl (by (try simp only [List.map_toArray, List.map_cons, List.map_nil]); first | done | rfl | (simp only [List.length_drop, List.length_take]; rfl)) ?_
         with_reducible refine (impl_CompareDate.calls kj6 t260 t261 t262 t263 t264 t265 t266 t267 t250 t251 t252 t253 t254 t255 t256 t257 t293 _ A61.out).mono ?_
         rintro e w114 ⟨rfl, hb⟩
         refine ⟨_, rfl, ?_⟩
         have n0_ := Aside0.mk (blk_below (g := gb259) (o := .cells (zq10_c t250 t251 t252 t253 t254 t255 t256 t257) 29 (0, 0)) (by (with_reducible repeat (first | refine blk_drewN ?_ _ | refine blk_drew ?_ | refine blk_alloc ?_ _)); exact BK259.out) hb)
         have n1_ := Aside0.mk (blk_below (g := gb269) (o := .cells (zq10_c t260 t261 t262 t263 t264 t265 t266 t267) 29 (0, 0)) (by (with_reducible repeat (first | refine blk_drewN ?_ _ | refine blk_drew ?_ | refine blk_alloc ?_ _)); exact BK269.out) hb)
         have n2_ := Aside0.mk (blk_below (g := gb279) (o := .cells (zq10_c t270 t271 t272 t273 t274 t275 t276 t277) 29 (0, 0)) (by (with_reducible repeat (first | refine blk_drewN ?_ _ | refine blk_drew ?_ | refine blk_alloc ?_ _)); exact BK279.out) hb)
         have n3_ := Aside0.mk (blk_below (g := gb289) (o := .cells (zq10_c t280 t281 t282 t283 t284 t285 t286 t287) 29 (0, 0)) (by (with_reducible repeat (first | refine blk_drewN ?_ _ | refine blk_drew ?_ | refine blk_alloc ?_ _)); exact BK289.out) hb)
         have n4_ := Aside0.mk (below_step (by repeat (first | (with_reducible first | exact HB.out | apply below_alloc | apply pw_below_drewN | apply below_drew1 | refine below_set ?_ GE259.out | refine below_set ?_ GE269.out | refine below_set ?_ GE279.out | refine below_set ?_ GE289.out) | exact HB.out)) hb)
         clear BK259
         clear BK269
         clear BK279
         clear BK289
         clear HB
         have BK259 := n0_
         have BK269 := n1_
         have BK279 := n2_
         have BK289 := n3_
         have HB := n4_
         clear n0_ n1_ n2_ n3_ n4_
         (try clear hb)
         (try clear hb2)
         (try clear hk)
         (try clear hi)
         refine hK.out _ _ ⟨(blk_cell BK269.out 0).trans rfl, (blk_cell BK269.out 1).trans rfl, (blk_cell BK269.out 2).trans rfl, (blk_cell BK269.out 3).trans rfl, (blk_cell BK269.out 4).trans rfl, (blk_cell BK269.out 5).trans rfl, (blk_cell BK269.out 6).trans rfl, (blk_cell BK269.out 7).trans rfl, (blk_cell BK259.out 0).trans rfl, (blk_cell BK259.out 1).trans rfl, (blk_cell BK259.out 2).trans rfl, (blk_cell BK259.out 3).trans rfl, (blk_cell BK259.out 4).trans rfl, (blk_cell BK259.out 5).trans rfl, (blk_cell BK259.out 6).trans rfl, (blk_cell BK259.out 7).trans rfl⟩ (fun hHeld => ?_)
         clear hK K
         refine norm_ (a' := ?_) ?_ ?_
         rotate_left
         ·show Act.put _ (some 75) _ = _
          simp only [Act.put, zq10_s1, zq10_s2, zq10_s3, i64_w, i32_w]
          rfl
         refine pure_ (i := 19) (N := some 76) (v := ?_) (a' := ?_) zq10_m18 rfl rfl (any_of HT_.out (by kernel_rfl)) (fun _ _ _ h => h) (Or.inl ⟨by rfl, ?_⟩) ?_ ?_
         rotate_left
         ·intro w'
          go_simp
          with_reducible rfl
         rotate_left
         ·simp only [Act.put, zq10_s1, zq10_s2, zq10_s3, i64_w, i32_w]
          rfl
         refine pure_ (i := 20) (N := some 77) (v := ?_) (a' := ?_) zq10_m19 rfl rfl (any_of HT_.out (by kernel_rfl)) (fun _ _ _ h => h) (Or.inl ⟨by rfl, ?_⟩) ?_ ?_
         rotate_left
         ·intro w'
          go_simp
          with_reducible rfl
         rotate_left
         ·simp only [Act.put, zq10_s1, zq10_s2, zq10_s3, i64_w, i32_w]
          rfl
         refine pure_ (i := 21) (N := some 78) (v := ?_) (a' := ?_) zq10_m20 rfl rfl (any_of HT_.out (by kernel_rfl)) (fun _ _ _ h => h) (Or.inl ⟨by rfl, ?_⟩) ?_ ?_
         rotate_left
         ·intro w'
          go_simp
          with_reducible rfl
         rotate_left
         ·simp only [Act.put, zq10_s1, zq10_s2, zq10_s3, i64_w, i32_w]
          rfl
         refine pure_ (i := 22) (N := some 79) (v := undef) (a' := ?_) zq10_m21 rfl rfl (any_of HT_.out (by kernel_rfl)) (fun _ _ _ h => h) (Or.inr ⟨by rfl, rfl⟩) ?_ ?_
         rotate_left
         ·simp only [Act.put, zq10_s1, zq10_s2, zq10_s3, i64_w, i32_w]
          rfl
         refine pure_ (i := 23) (N := some 80) (v := ?_) (a' := ?_) zq10_m22 rfl rfl (any_of HT_.out (by kernel_rfl)) (fun _ _ _ h => h) (Or.inl ⟨by rfl, ?_⟩) ?_ ?_
         rotate_left
         ·intro w'
          go_simp
          with_reducible rfl
         rotate_left
         ·simp only [Act.put, zq10_s1, zq10_s2, zq10_s3, i64_w, i32_w]
          rfl
         refine pure_ (i := 24) (N := some 81) (v := ?_) (a' := ?_) zq10_m23 rfl rfl (any_of HT_.out (by kernel_rfl)) (fun _ _ _ h => h) (Or.inl ⟨by rfl, ?_⟩) ?_ ?_
         rotate_left
         ·intro w'
          go_simp
          with_reducible rfl
         rotate_left
         ·simp only [Act.put, zq10_s1, zq10_s2, zq10_s3, i64_w, i32_w]
          rfl
         refine pure_ (i := 25) (N := some 82) (v := undef) (a' := ?_) zq10_m24 rfl rfl (any_of HT_.out (by kernel_rfl)) (fun _ _ _ h => h) (Or.inr ⟨by rfl, rfl⟩) ?_ ?_
         rotate_left
         ·simp only [Act.put, zq10_s1, zq10_s2, zq10_s3, i64_w, i32_w]
          rfl
         refine pure_ (i := 26) (N := some 83) (v := undef) (a' := ?_) zq10_m25 rfl rfl (any_of HT_.out (by kernel_rfl)) (fun _ _ _ h => h) (Or.inr ⟨by rfl, rfl⟩) ?_ ?_
         rotate_left
         ·simp only [Act.put, zq10_s1, zq10_s2, zq10_s3, i64_w, i32_w]
          rfl
         refine pure_ (i := 27) (N := some 84) (v := undef) (a' := ?_) zq10_m26 rfl rfl (any_of HT_.out (by kernel_rfl)) (fun _ _ _ h => h) (Or.inr ⟨by rfl, rfl⟩) ?_ ?_
         rotate_left
         ·simp only [Act.put, zq10_s1, zq10_s2, zq10_s3, i64_w, i32_w]
          rfl
         refine pure_ (i := 28) (N := some 85) (v := ?_) (a' := ?_) zq10_m27 rfl rfl (any_of HT_.out (by kernel_rfl)) (fun _ _ _ h => h) (Or.inl ⟨by rfl, ?_⟩) ?_ ?_
         rotate_left
         ·intro w'
          go_simp
          with_reducible rfl
         rotate_left
         ·simp only [Act.put, zq10_s1, zq10_s2, zq10_s3, i64_w, i32_w]
          rfl
         refine pure_ (i := 29) (N := some 2) (v := ?_) (a' := ?_) zq10_m28 rfl rfl (any_of HT_.out (by kernel_rfl)) (fun _ _ _ h => h) (Or.inl ⟨by rfl, ?_⟩) ?_ ?_
         rotate_left
         ·intro w'
          go_simp
          with_reducible rfl
         rotate_left
         ·simp only [Act.put, zq10_s1, zq10_s2, zq10_s3, i64_w, i32_w]
          rfl
         refine done_ (done_of HT_.out (by kernel_rfl)) ?_
         try go_wp2
         go_ret
         exact ⟨by first | rfl | (simp [*] <;> rfl), by repeat (first | (with_reducible first | exact HB.out | apply below_alloc | apply pw_below_drewN | apply below_drew1 | refine below_set ?_ GE259.out | refine below_set ?_ GE269.out | refine below_set ?_ GE279.out | refine below_set ?_ GE289.out) | exact HB.out)⟩
       ·rw [if_neg c60] at H
        have c60b0 : (t291 == t292) = false := beq_eq_false_iff_ne.mpr c60
        have c60b1 : (t291 != t292) = true := bne_iff_ne.mpr c60
        obtain rfl := Option.some.inj H
        have hnb115 := NB269_259.out
        have hnc115 := NB259_269.out
        have hnb116 := NB269_279.out
        have hnc116 := NB279_269.out
        have hcz117_0 : wc.cell? ⟨gb269, 0, none⟩ = some (.int .i64 t260) := (blk_cell BK269.out 0).trans rfl
        have hcz117_1 : wc.cell? ⟨gb269, 1, none⟩ = some (.int .i64 t261) := (blk_cell BK269.out 1).trans rfl
        have hcz117_2 : wc.cell? ⟨gb269, 2, none⟩ = some (.int .i64 t262) := (blk_cell BK269.out 2).trans rfl
        have hcz117_3 : wc.cell? ⟨gb269, 3, none⟩ = some (.int .i64 t263) := (blk_cell BK269.out 3).trans rfl
        have hcz117_4 : wc.cell? ⟨gb269, 4, none⟩ = some (.int .i64 t264) := (blk_cell BK269.out 4).trans rfl
        have hcz117_5 : wc.cell? ⟨gb269, 5, none⟩ = some (.int .i64 t265) := (blk_cell BK269.out 5).trans rfl
        have hcz117_6 : wc.cell? ⟨gb269, 6, none⟩ = some (.bool t266) := (blk_cell BK269.out 6).trans rfl
        have hcz117_7 : wc.cell? ⟨gb269, 7, none⟩ = some (.int .i64 t267) := (blk_cell BK269.out 7).trans rfl
        have hfz117_0 := blk_frozen BK269.out 0
        have hfz117_1 := blk_frozen BK269.out 1
        have hfz117_2 := blk_frozen BK269.out 2
        have hfz117_3 := blk_frozen BK269.out 3
        have hfz117_4 := blk_frozen BK269.out 4
        have hfz117_5 := blk_frozen BK269.out 5
        have hfz117_6 := blk_frozen BK269.out 6
        have hfz117_7 := blk_frozen BK269.out 7
        have hnb118 := NB259_279.out
        have hnc118 := NB279_259.out
        have hcz119_0 : wc.cell? ⟨gb259, 0, none⟩ = some (.int .i64 t250) := (blk_cell BK259.out 0).trans rfl
        have hcz119_1 : wc.cell? ⟨gb259, 1, none⟩ = some (.int .i64 t251) := (blk_cell BK259.out 1).trans rfl
        have hcz119_2 : wc.cell? ⟨gb259, 2, none⟩ = some (.int .i64 t252) := (blk_cell BK259.out 2).trans rfl
        have hcz119_3 : wc.cell? ⟨gb259, 3, none⟩ = some (.int .i64 t253) := (blk_cell BK259.out 3).trans rfl
        have hcz119_4 : wc.cell? ⟨gb259, 4, none⟩ = some (.int .i64 t254) := (blk_cell BK259.out 4).trans rfl
        have hcz119_5 : wc.cell? ⟨gb259, 5, none⟩ = some (.int .i64 t255) := (blk_cell BK259.out 5).trans rfl
        have hcz119_6 : wc.cell? ⟨gb259, 6, none⟩ = some (.bool t256) := (blk_cell BK259.out 6).trans rfl
        have hcz119_7 : wc.cell? ⟨gb259, 7, none⟩ = some (.int .i64 t257) := (blk_cell BK259.out 7).trans rfl
        have hfz119_0 := blk_frozen BK259.out 0
        have hfz119_1 := blk_frozen BK259.out 1
        have hfz119_2 := blk_frozen BK259.out 2
        have hfz119_3 := blk_frozen BK259.out 3
        have hfz119_4 := blk_frozen BK259.out 4
        have hfz119_5 := blk_frozen BK259.out 5
        have hfz119_6 := blk_frozen BK259.out 6
        have hfz119_7 := blk_frozen BK259.out 7
        try go_wp2_with (first | ((with_reducible refine gate_callee (f := 27) rfl ?_); refine goesL_ (some 54) rfl rfl Try.func27 (by kernel_rfl) rfl #[.agg (zq10_c t260 t261 t262 t263 t264 t265 t266 t267), .int .i64 t257] rfl (by (try simp only [List.map_toArray, List.map_cons, List.map_nil]); first | done | rfl | (simp only [List.length_drop, List.length_take]; rfl)) ?_; (with_reducible refine (impl_Shifted.calls kj6 t260 t261 t262 t263 t264 t265 t266 t267 t257 t280 t281 t282 t283 t284 t285 t286 t287 t288 _ A54.out).mono ?_); rintro e w120 ⟨rfl, hb⟩; refine ⟨_, rfl, ?_⟩; have n0_ := Aside0.mk (blk_below (g := gb259) (o := .cells (zq10_c t250 t251 t252 t253 t254 t255 t256 t257) 29 (0, 0)) (by (with_reducible repeat (first | refine blk_drewN ?_ _ | refine blk_drew ?_ | refine blk_alloc ?_ _)); exact BK259.out) hb); have n1_ := Aside0.mk (blk_below (g := gb269) (o := .cells (zq10_c t260 t261 t262 t263 t264 t265 t266 t267) 29 (0, 0)) (by (with_reducible repeat (first | refine blk_drewN ?_ _ | refine blk_drew ?_ | refine blk_alloc ?_ _)); exact BK269.out) hb); have n2_ := Aside0.mk (blk_below (g := gb279) (o := .cells (zq10_c t270 t271 t272 t273 t274 t275 t276 t277) 29 (0, 0)) (by (with_reducible repeat (first | refine blk_drewN ?_ _ | refine blk_drew ?_ | refine blk_alloc ?_ _)); exact BK279.out) hb); have n3_ := Aside0.mk (below_step (by repeat (first | (with_reducible first | exact HB.out | apply below_alloc | apply pw_below_drewN | apply below_drew1 | refine below_set ?_ GE259.out | refine below_set ?_ GE269.out | refine below_set ?_ GE279.out) | exact HB.out)) hb); clear BK259; clear BK269; clear BK279; clear HB; have BK259 := n0_; have BK269 := n1_; have BK279 := n2_; have HB := n3_; clear n0_ n1_ n2_ n3_; (try clear hb); (try clear hb2); (try clear hk); (try clear hi)) | ((with_reducible refine gate_dst (N := 9) rfl ?_); refine box_event ?hg (N := 9) ?hd (cs := #[.int .i64 0, .int .i64 0, .int .i64 0, .int .i64 0, .int .i64 0, .int .i64 0, .bool false, .int .i64 0]) (t := 29) ?hr ?_; (case hd => rfl); (case hg => rfl); (case hr => first | (go_simp; done) | (go_simp; rfl)); intro gb289 hg w121 hbox hb; have n0_ := Aside0.mk (blk_below (g := gb259) (o := .cells (zq10_c t250 t251 t252 t253 t254 t255 t256 t257) 29 (0, 0)) (by (with_reducible repeat (first | refine blk_drewN ?_ _ | refine blk_drew ?_ | refine blk_alloc ?_ _)); exact BK259.out) hb); have n1_ := Aside0.mk (blk_below (g := gb269) (o := .cells (zq10_c t260 t261 t262 t263 t264 t265 t266 t267) 29 (0, 0)) (by (with_reducible repeat (first | refine blk_drewN ?_ _ | refine blk_drew ?_ | refine blk_alloc ?_ _)); exact BK269.out) hb); have n2_ := Aside0.mk (blk_below (g := gb279) (o := .cells (zq10_c t270 t271 t272 t273 t274 t275 t276 t277) 29 (0, 0)) (by (with_reducible repeat (first | refine blk_drewN ?_ _ | refine blk_drew ?_ | refine blk_alloc ?_ _)); exact BK279.out) hb); have n3_ := Aside0.mk (below_step (by repeat (first | (with_reducible first | exact HB.out | apply below_alloc | apply pw_below_drewN | apply below_drew1 | refine below_set ?_ GE259.out | refine below_set ?_ GE269.out | refine below_set ?_ GE279.out) | exact HB.out)) hb); have n4_ := Aside0.mk (hbox); have n5_ := Aside0.mk ((by rw [hg]; exact (below_size (by repeat (first | (with_reducible first | exact HB.out | apply below_alloc | apply pw_below_drewN | apply below_drew1 | refine below_set ?_ GE259.out | refine below_set ?_ GE269.out | refine below_set ?_ GE279.out) | exact HB.out))) : w.heap.size ≤ gb289)); have n6_ := Aside0.mk ((by rw [hg]; exact (below_size (by repeat (first | (with_reducible first | exact HB.out | apply below_alloc | apply pw_below_drewN | apply below_drew1 | refine below_set ?_ GE259.out | refine below_set ?_ GE269.out | refine below_set ?_ GE279.out) | exact HB.out))) : w.heap.size ≤ gb289)); have n7_ := Aside0.mk ((by rw [hg]; exact Nat.ne_of_lt (blk_lt (g := gb259) (o := .cells (zq10_c t250 t251 t252 t253 t254 t255 t256 t257) 29 (0, 0)) (by (with_reducible repeat (first | refine blk_drewN ?_ _ | refine blk_drew ?_ | refine blk_alloc ?_ _)); exact BK259.out)) : gb259 ≠ gb289)); have n8_ := Aside0.mk ((by rw [hg]; exact Nat.ne_of_gt (blk_lt (g := gb259) (o := .cells (zq10_c t250 t251 t252 t253 t254 t255 t256 t257) 29 (0, 0)) (by (with_reducible repeat (first | refine blk_drewN ?_ _ | refine blk_drew ?_ | refine blk_alloc ?_ _)); exact BK259.out)) : gb289 ≠ gb259)); have n9_ := Aside0.mk ((by rw [hg]; exact Nat.ne_of_lt (blk_lt (g := gb269) (o := .cells (zq10_c t260 t261 t262 t263 t264 t265 t266 t267) 29 (0, 0)) (by (with_reducible repeat (first | refine blk_drewN ?_ _ | refine blk_drew ?_ | refine blk_alloc ?_ _)); exact BK269.out)) : gb269 ≠ gb289)); have n10_ := Aside0.mk ((by rw [hg]; exact Nat.ne_of_gt (blk_lt (g := gb269) (o := .cells (zq10_c t260 t261 t262 t263 t264 t265 t266 t267) 29 (0, 0)) (by (with_reducible repeat (first | refine blk_drewN ?_ _ | refine blk_drew ?_ | refine blk_alloc ?_ _)); exact BK269.out)) : gb289 ≠ gb269)); have n11_ := Aside0.mk ((by rw [hg]; exact Nat.ne_of_lt (blk_lt (g := gb279) (o := .cells (zq10_c t270 t271 t272 t273 t274 t275 t276 t277) 29 (0, 0)) (by (with_reducible repeat (first | refine blk_drewN ?_ _ | refine blk_drew ?_ | refine blk_alloc ?_ _)); exact BK279.out)) : gb279 ≠ gb289)); have n12_ := Aside0.mk ((by rw [hg]; exact Nat.ne_of_gt (blk_lt (g := gb279) (o := .cells (zq10_c t270 t271 t272 t273 t274 t275 t276 t277) 29 (0, 0)) (by (with_reducible repeat (first | refine blk_drewN ?_ _ | refine blk_drew ?_ | refine blk_alloc ?_ _)); exact BK279.out)) : gb289 ≠ gb279)); clear BK259; clear BK269; clear BK279; clear HB; have BK259 := n0_; have BK269 := n1_; have BK279 := n2_; have HB := n3_; have BK289 := n4_; have GW289 := n5_; have GE289 := n6_; have NB259_289 := n7_; have NB289_259 := n8_; have NB269_289 := n9_; have NB289_269 := n10_; have NB279_289 := n11_; have NB289_279 := n12_; clear n0_ n1_ n2_ n3_ n4_ n5_ n6_ n7_ n8_ n9_ n10_ n11_ n12_; clear hb hbox hg; have hnb122 := NB289_259.out; have hnc122 := NB259_289.out; have hnb123 := NB289_269.out; have hnc123 := NB269_289.out; have hnb124 := NB289_279.out; have hnc124 := NB279_289.out; have hcz125_0 : w121.cell? ⟨gb289, 0, none⟩ = some (.int .i64 0) := (blk_cell BK289.out 0).trans rfl; have hcz125_1 : w121.cell? ⟨gb289, 1, none⟩ = some (.int .i64 0) := (blk_cell BK289.out 1).trans rfl; have hcz125_2 : w121.cell? ⟨gb289, 2, none⟩ = some (.int .i64 0) := (blk_cell BK289.out 2).trans rfl; have hcz125_3 : w121.cell? ⟨gb289, 3, none⟩ = some (.int .i64 0) := (blk_cell BK289.out 3).trans rfl; have hcz125_4 : w121.cell? ⟨gb289, 4, none⟩ = some (.int .i64 0) := (blk_cell BK289.out 4).trans rfl; have hcz125_5 : w121.cell? ⟨gb289, 5, none⟩ = some (.int .i64 0) := (blk_cell BK289.out 5).trans rfl; have hcz125_6 : w121.cell? ⟨gb289, 6, none⟩ = some (.bool false) := (blk_cell BK289.out 6).trans rfl; have hcz125_7 : w121.cell? ⟨gb289, 7, none⟩ = some (.int .i64 0) := (blk_cell BK289.out 7).trans rfl; have hfz125_0 := blk_frozen BK289.out 0; have hfz125_1 := blk_frozen BK289.out 1; have hfz125_2 := blk_frozen BK289.out 2; have hfz125_3 := blk_frozen BK289.out 3; have hfz125_4 := blk_frozen BK289.out 4; have hfz125_5 := blk_frozen BK289.out 5; have hfz125_6 := blk_frozen BK289.out 6; have hfz125_7 := blk_frozen BK289.out 7) | ((with_reducible refine gate_store (t := 29) (p := 9) rfl ?_); refine store_event (t := 29) (p := 9) (v := ?vo_w126) (w1 := ((((((((w121.setCell ⟨gb289, 0, none⟩ (.int .i64 t280)).setCell ⟨gb289, 1, none⟩ (.int .i64 t281)).setCell ⟨gb289, 2, none⟩ (.int .i64 t282)).setCell ⟨gb289, 3, none⟩ (.int .i64 t283)).setCell ⟨gb289, 4, none⟩ (.int .i64 t284)).setCell ⟨gb289, 5, none⟩ (.int .i64 t285)).setCell ⟨gb289, 6, none⟩ (.bool t286)).setCell ⟨gb289, 7, none⟩ (.int .i64 t287))) ?hg ?ho ?hn ?hr ?_; (case ho => rfl); (case hg => rfl); (case hn => rfl); (case hr => first | (go_simp; done) | (go_simp; rfl)); intro w126 hw; have n0_ : Aside0 (w126.heap[gb259]? = some (.cells (zq10_c t250 t251 t252 t253 t254 t255 t256 t257) 29 (0, 0))) := ⟨(by rw [hw]; exact (by (with_reducible repeat (first | refine blk_drewN ?_ _ | refine blk_drew ?_ | refine blk_alloc ?_ _ | refine blk_far ?_ NB259_289.out _)); (with_reducible repeat (first | refine blk_drewN ?_ _ | refine blk_drew ?_ | refine blk_alloc ?_ _)); exact BK259.out))⟩; have n1_ : Aside0 (w126.heap[gb269]? = some (.cells (zq10_c t260 t261 t262 t263 t264 t265 t266 t267) 29 (0, 0))) := ⟨(by rw [hw]; exact (by (with_reducible repeat (first | refine blk_drewN ?_ _ | refine blk_drew ?_ | refine blk_alloc ?_ _ | refine blk_far ?_ NB269_289.out _)); (with_reducible repeat (first | refine blk_drewN ?_ _ | refine blk_drew ?_ | refine blk_alloc ?_ _)); exact BK269.out))⟩; have n2_ : Aside0 (w126.heap[gb279]? = some (.cells (zq10_c t270 t271 t272 t273 t274 t275 t276 t277) 29 (0, 0))) := ⟨(by rw [hw]; exact (by (with_reducible repeat (first | refine blk_drewN ?_ _ | refine blk_drew ?_ | refine blk_alloc ?_ _ | refine blk_far ?_ NB279_289.out _)); (with_reducible repeat (first | refine blk_drewN ?_ _ | refine blk_drew ?_ | refine blk_alloc ?_ _)); exact BK279.out))⟩; have n3_ : Aside0 (w126.heap[gb289]? = some (.cells (zq10_c t280 t281 t282 t283 t284 t285 t286 t287) 29 (0, 0))) := ⟨(by rw [hw]; exact (by (with_reducible repeat (first | refine blk_drewN ?_ _ | refine blk_drew ?_ | refine blk_alloc ?_ _)); refine zq10_put8 (cs := #[.int .i64 0, .int .i64 0, .int .i64 0, .int .i64 0, .int .i64 0, .int .i64 0, .bool false, .int .i64 0]) ?_ rfl; (with_reducible repeat (first | refine blk_drewN ?_ _ | refine blk_drew ?_ | refine blk_alloc ?_ _)); exact BK289.out))⟩; have n4_ : Aside0 (Below w.heap.size w w126) := ⟨(by rw [hw]; exact (by repeat (first | (with_reducible first | exact HB.out | apply below_alloc | apply pw_below_drewN | apply below_drew1 | refine below_set ?_ GE259.out | refine below_set ?_ GE269.out | refine below_set ?_ GE279.out | refine below_set ?_ GE289.out) | exact HB.out)))⟩; clear hw; clear BK259; clear BK269; clear BK279; clear BK289; clear HB; have BK259 := n0_; have BK269 := n1_; have BK279 := n2_; have BK289 := n3_; have HB := n4_; clear n0_ n1_ n2_ n3_ n4_))
        have n0_ := Aside0.mk (blk_drew BK259.out)
        have n1_ := Aside0.mk (blk_drew BK269.out)
        have n2_ := Aside0.mk (blk_drew BK279.out)
        have n3_ := Aside0.mk (blk_drew BK289.out)
        have n4_ := Aside0.mk (below_drew1 HB.out)
        clear BK259
        clear BK269
        clear BK279
        clear BK289
        clear HB
        have BK259 := n0_
        have BK269 := n1_
        have BK279 := n2_
        have BK289 := n3_
        have HB := n4_
        clear n0_ n1_ n2_ n3_ n4_
        refine start_ (n := 30) (S := fun w' => w'.cell? ⟨gb269, 0, none⟩ = some (.int .i64 t260) ∧ w'.cell? ⟨gb269, 1, none⟩ = some (.int .i64 t261) ∧ w'.cell? ⟨gb269, 2, none⟩ = some (.int .i64 t262) ∧ w'.cell? ⟨gb269, 3, none⟩ = some (.int .i64 t263) ∧ w'.cell? ⟨gb269, 4, none⟩ = some (.int .i64 t264) ∧ w'.cell? ⟨gb269, 5, none⟩ = some (.int .i64 t265) ∧ w'.cell? ⟨gb269, 6, none⟩ = some (.bool t266) ∧ w'.cell? ⟨gb269, 7, none⟩ = some (.int .i64 t267) ∧ w'.cell? ⟨gb259, 0, none⟩ = some (.int .i64 t250) ∧ w'.cell? ⟨gb259, 1, none⟩ = some (.int .i64 t251) ∧ w'.cell? ⟨gb259, 2, none⟩ = some (.int .i64 t252) ∧ w'.cell? ⟨gb259, 3, none⟩ = some (.int .i64 t253) ∧ w'.cell? ⟨gb259, 4, none⟩ = some (.int .i64 t254) ∧ w'.cell? ⟨gb259, 5, none⟩ = some (.int .i64 t255) ∧ w'.cell? ⟨gb259, 6, none⟩ = some (.bool t256) ∧ w'.cell? ⟨gb259, 7, none⟩ = some (.int .i64 t257)) (ds := []) zq10_m0 (by kernel_rfl) rfl rfl ⟨(blk_cell BK269.out 0).trans rfl, (blk_cell BK269.out 1).trans rfl, (blk_cell BK269.out 2).trans rfl, (blk_cell BK269.out 3).trans rfl, (blk_cell BK269.out 4).trans rfl, (blk_cell BK269.out 5).trans rfl, (blk_cell BK269.out 6).trans rfl, (blk_cell BK269.out 7).trans rfl, (blk_cell BK259.out 0).trans rfl, (blk_cell BK259.out 1).trans rfl, (blk_cell BK259.out 2).trans rfl, (blk_cell BK259.out 3).trans rfl, (blk_cell BK259.out 4).trans rfl, (blk_cell BK259.out 5).trans rfl, (blk_cell BK259.out 6).trans rfl, (blk_cell BK259.out 7).trans rfl⟩ (fun hHeld => ?_); refine with_tabW laws_FnShifted.tab9 laws_FnShifted.bits9 (fun HT_ HW_ => ?_)
        generalize w126.drew = w127 at BK259 BK269 BK279 BK289 HB hHeld ⊢
        refine take_ (i := 0) (N := some 57) (v := ?_) (a' := ?_) zq10_m1 rfl rfl (take_ofW HT_.out HW_.out (by kernel_rfl)) (fun _ _ _ h => h) (Or.inl ⟨by rfl, ?_⟩) hHeld ?_ ?_
        rotate_left
        ·rintro w' ⟨s0, s1, s2, s3, s4, s5, s6, s7, s8, s9, s10, s11, s12, s13, s14, s15⟩
         go_simp
         with_reducible rfl
        rotate_left
        ·simp only [Act.put, zq10_s1, zq10_s2, zq10_s3, i64_w, i32_w]
         rfl
        refine one_ (i := 1) (N := some 58) zq10_m2 rfl rfl (one_of HT_.out (by kernel_rfl)) (by decide) (fun K hK => ?_)
        refine goes_ Try.func19 (by kernel_rfl) rfl #[.agg (zq10_c t260 t261 t262 t263 t264 t265 t266 t267)] (by rfl) rfl rfl (by (try simp only [List.map_toArray, List.map_cons, List.map_nil]); first | done | rfl | (simp only [List.length_drop, List.length_take]; rfl)) ?_
        with_reducible refine (impl_DateOk.calls t260 t261 t262 t263 t264 t265 t266 t267 true _ A55.out).mono ?_
        rintro e w128 ⟨rfl, hb⟩
        refine ⟨_, rfl, ?_⟩
        have n0_ := Aside0.mk (blk_below (g := gb259) (o := .cells (zq10_c t250 t251 t252 t253 t254 t255 t256 t257) 29 (0, 0)) (by (with_reducible repeat (first | refine blk_drewN ?_ _ | refine blk_drew ?_ | refine blk_alloc ?_ _)); exact BK259.out) hb)
        have n1_ := Aside0.mk (blk_below (g := gb269) (o := .cells (zq10_c t260 t261 t262 t263 t264 t265 t266 t267) 29 (0, 0)) (by (with_reducible repeat (first | refine blk_drewN ?_ _ | refine blk_drew ?_ | refine blk_alloc ?_ _)); exact BK269.out) hb)
        have n2_ := Aside0.mk (blk_below (g := gb279) (o := .cells (zq10_c t270 t271 t272 t273 t274 t275 t276 t277) 29 (0, 0)) (by (with_reducible repeat (first | refine blk_drewN ?_ _ | refine blk_drew ?_ | refine blk_alloc ?_ _)); exact BK279.out) hb)
        have n3_ := Aside0.mk (blk_below (g := gb289) (o := .cells (zq10_c t280 t281 t282 t283 t284 t285 t286 t287) 29 (0, 0)) (by (with_reducible repeat (first | refine blk_drewN ?_ _ | refine blk_drew ?_ | refine blk_alloc ?_ _)); exact BK289.out) hb)
        have n4_ := Aside0.mk (below_step (by repeat (first | (with_reducible first | exact HB.out | apply below_alloc | apply pw_below_drewN | apply below_drew1 | refine below_set ?_ GE259.out | refine below_set ?_ GE269.out | refine below_set ?_ GE279.out | refine below_set ?_ GE289.out) | exact HB.out)) hb)
        clear BK259
        clear BK269
        clear BK279
        clear BK289
        clear HB
        have BK259 := n0_
        have BK269 := n1_
        have BK279 := n2_
        have BK289 := n3_
        have HB := n4_
        clear n0_ n1_ n2_ n3_ n4_
        (try clear hb)
        (try clear hb2)
        (try clear hk)
        (try clear hi)
        refine hK.out _ _ ⟨(blk_cell BK269.out 0).trans rfl, (blk_cell BK269.out 1).trans rfl, (blk_cell BK269.out 2).trans rfl, (blk_cell BK269.out 3).trans rfl, (blk_cell BK269.out 4).trans rfl, (blk_cell BK269.out 5).trans rfl, (blk_cell BK269.out 6).trans rfl, (blk_cell BK269.out 7).trans rfl, (blk_cell BK259.out 0).trans rfl, (blk_cell BK259.out 1).trans rfl, (blk_cell BK259.out 2).trans rfl, (blk_cell BK259.out 3).trans rfl, (blk_cell BK259.out 4).trans rfl, (blk_cell BK259.out 5).trans rfl, (blk_cell BK259.out 6).trans rfl, (blk_cell BK259.out 7).trans rfl⟩ (fun hHeld => ?_)
        clear hK K
        refine norm_ (a' := ?_) ?_ ?_
        rotate_left
        ·show Act.put _ (some 58) _ = _
         simp only [Act.put, zq10_s1, zq10_s2, zq10_s3, i64_w, i32_w]
         rfl
        refine pure_ (i := 2) (N := some 59) (v := ?_) (a' := ?_) zq10_m3 rfl rfl (any_of HT_.out (by kernel_rfl)) (fun _ _ _ h => h) (Or.inl ⟨by rfl, ?_⟩) ?_ ?_
        rotate_left
        ·intro w'
         go_simp
         with_reducible rfl
        rotate_left
        ·simp only [Act.put, zq10_s1, zq10_s2, zq10_s3, i64_w, i32_w]
         rfl
        refine pure_ (i := 3) (N := some 60) (v := ?_) (a' := ?_) zq10_m4 rfl rfl (any_of HT_.out (by kernel_rfl)) (fun _ _ _ h => h) (Or.inl ⟨by rfl, ?_⟩) ?_ ?_
        rotate_left
        ·intro w'
         go_simp
         with_reducible rfl
        rotate_left
        ·simp only [Act.put, zq10_s1, zq10_s2, zq10_s3, i64_w, i32_w]
         rfl
        refine pure_ (i := 5) (N := some 62) (v := ?_) (a' := ?_) zq10_m29 rfl rfl (any_of HT_.out (by kernel_rfl)) (fun _ _ _ h => h) (Or.inl ⟨by rfl, ?_⟩) ?_ ?_
        rotate_left
        ·intro w'
         go_simp
         with_reducible rfl
        rotate_left
        ·simp only [Act.put, zq10_s1, zq10_s2, zq10_s3, i64_w, i32_w]
         rfl
        refine take_ (i := 4) (N := some 61) (v := ?_) (a' := ?_) zq10_m5 rfl rfl (take_ofW HT_.out HW_.out (by kernel_rfl)) (fun _ _ _ h => h) (Or.inl ⟨by rfl, ?_⟩) hHeld ?_ ?_
        rotate_left
        ·rintro w' ⟨s0, s1, s2, s3, s4, s5, s6, s7, s8, s9, s10, s11, s12, s13, s14, s15⟩
         go_simp
         with_reducible rfl
        rotate_left
        ·simp only [Act.put, zq10_s1, zq10_s2, zq10_s3, i64_w, i32_w]
         rfl
        refine pure_ (i := 6) (N := some 63) (v := ?_) (a' := ?_) zq10_m6 rfl rfl (any_of HT_.out (by kernel_rfl)) (fun _ _ _ h => h) (Or.inl ⟨by rfl, ?_⟩) ?_ ?_
        rotate_left
        ·intro w'
         go_simp
         with_reducible rfl
        rotate_left
        ·simp only [Act.put, zq10_s1, zq10_s2, zq10_s3, i64_w, i32_w]
         rfl
        refine pure_ (i := 7) (N := some 64) (v := ?_) (a' := ?_) zq10_m7 rfl rfl (any_of HT_.out (by kernel_rfl)) (fun _ _ _ h => h) (Or.inl ⟨by rfl, ?_⟩) ?_ ?_
        rotate_left
        ·intro w'
         go_simp
         with_reducible rfl
        rotate_left
        ·simp only [Act.put, zq10_s1, zq10_s2, zq10_s3, i64_w, i32_w]
         rfl
        refine pure_ (i := 8) (N := some 65) (v := ?_) (a' := ?_) zq10_m8 rfl rfl (any_of HT_.out (by kernel_rfl)) (fun _ _ _ h => h) (Or.inl ⟨by rfl, ?_⟩) ?_ ?_
        rotate_left
        ·intro w'
         go_simp
         with_reducible rfl
        rotate_left
        ·simp only [Act.put, zq10_s1, zq10_s2, zq10_s3, i64_w, i32_w]
         rfl
        refine take_ (i := 9) (N := some 66) (v := ?_) (a' := ?_) zq10_m9 rfl rfl (take_ofW HT_.out HW_.out (by kernel_rfl)) (fun _ _ _ h => h) (Or.inl ⟨by rfl, ?_⟩) hHeld ?_ ?_
        rotate_left
        ·rintro w' ⟨s0, s1, s2, s3, s4, s5, s6, s7, s8, s9, s10, s11, s12, s13, s14, s15⟩
         go_simp
         with_reducible rfl
        rotate_left
        ·simp only [Act.put, zq10_s1, zq10_s2, zq10_s3, i64_w, i32_w]
         rfl
        refine take_ (i := 11) (N := some 68) (v := ?_) (a' := ?_) zq10_m30 rfl rfl (take_ofW HT_.out HW_.out (by kernel_rfl)) (fun _ _ _ h => h) (Or.inl ⟨by rfl, ?_⟩) hHeld ?_ ?_
        rotate_left
        ·rintro w' ⟨s0, s1, s2, s3, s4, s5, s6, s7, s8, s9, s10, s11, s12, s13, s14, s15⟩
         go_simp
         with_reducible rfl
        rotate_left
        ·simp only [Act.put, zq10_s1, zq10_s2, zq10_s3, i64_w, i32_w]
         rfl
        refine one_ (i := 10) (N := some 67) zq10_m10 rfl rfl (one_of HT_.out (by kernel_rfl)) (by decide) (fun K hK => ?_)
        refine goes_ Try.func21 (by kernel_rfl) rfl #[.agg (zq10_c t260 t261 t262 t263 t264 t265 t266 t267)] (by rfl) rfl rfl (by (try simp only [List.map_toArray, List.map_cons, List.map_nil]); first | done | rfl | (simp only [List.length_drop, List.length_take]; rfl)) ?_
        with_reducible refine (impl_SecondsOf.calls kj6 t260 t261 t262 t263 t264 t265 t266 t267 t291 _ A58.out).mono ?_
        rintro e w129 ⟨rfl, hb⟩
        refine ⟨_, rfl, ?_⟩
        have n0_ := Aside0.mk (blk_below (g := gb259) (o := .cells (zq10_c t250 t251 t252 t253 t254 t255 t256 t257) 29 (0, 0)) (by (with_reducible repeat (first | refine blk_drewN ?_ _ | refine blk_drew ?_ | refine blk_alloc ?_ _)); exact BK259.out) hb)
        have n1_ := Aside0.mk (blk_below (g := gb269) (o := .cells (zq10_c t260 t261 t262 t263 t264 t265 t266 t267) 29 (0, 0)) (by (with_reducible repeat (first | refine blk_drewN ?_ _ | refine blk_drew ?_ | refine blk_alloc ?_ _)); exact BK269.out) hb)
        have n2_ := Aside0.mk (blk_below (g := gb279) (o := .cells (zq10_c t270 t271 t272 t273 t274 t275 t276 t277) 29 (0, 0)) (by (with_reducible repeat (first | refine blk_drewN ?_ _ | refine blk_drew ?_ | refine blk_alloc ?_ _)); exact BK279.out) hb)
        have n3_ := Aside0.mk (blk_below (g := gb289) (o := .cells (zq10_c t280 t281 t282 t283 t284 t285 t286 t287) 29 (0, 0)) (by (with_reducible repeat (first | refine blk_drewN ?_ _ | refine blk_drew ?_ | refine blk_alloc ?_ _)); exact BK289.out) hb)
        have n4_ := Aside0.mk (below_step (by repeat (first | (with_reducible first | exact HB.out | apply below_alloc | apply pw_below_drewN | apply below_drew1 | refine below_set ?_ GE259.out | refine below_set ?_ GE269.out | refine below_set ?_ GE279.out | refine below_set ?_ GE289.out) | exact HB.out)) hb)
        clear BK259
        clear BK269
        clear BK279
        clear BK289
        clear HB
        have BK259 := n0_
        have BK269 := n1_
        have BK279 := n2_
        have BK289 := n3_
        have HB := n4_
        clear n0_ n1_ n2_ n3_ n4_
        (try clear hb)
        (try clear hb2)
        (try clear hk)
        (try clear hi)
        refine hK.out _ _ ⟨(blk_cell BK269.out 0).trans rfl, (blk_cell BK269.out 1).trans rfl, (blk_cell BK269.out 2).trans rfl, (blk_cell BK269.out 3).trans rfl, (blk_cell BK269.out 4).trans rfl, (blk_cell BK269.out 5).trans rfl, (blk_cell BK269.out 6).trans rfl, (blk_cell BK269.out 7).trans rfl, (blk_cell BK259.out 0).trans rfl, (blk_cell BK259.out 1).trans rfl, (blk_cell BK259.out 2).trans rfl, (blk_cell BK259.out 3).trans rfl, (blk_cell BK259.out 4).trans rfl, (blk_cell BK259.out 5).trans rfl, (blk_cell BK259.out 6).trans rfl, (blk_cell BK259.out 7).trans rfl⟩ (fun hHeld => ?_)
        clear hK K
        refine norm_ (a' := ?_) ?_ ?_
        rotate_left
        ·show Act.put _ (some 67) _ = _
         simp only [Act.put, zq10_s1, zq10_s2, zq10_s3, i64_w, i32_w]
         rfl
        refine one_ (i := 12) (N := some 69) zq10_m11 rfl rfl (one_of HT_.out (by kernel_rfl)) (by decide) (fun K hK => ?_)
        refine goes_ Try.func21 (by kernel_rfl) rfl #[.agg (zq10_c t250 t251 t252 t253 t254 t255 t256 t257)] (by rfl) rfl rfl (by (try simp only [List.map_toArray, List.map_cons, List.map_nil]); first | done | rfl | (simp only [List.length_drop, List.length_take]; rfl)) ?_
        with_reducible refine (impl_SecondsOf.calls kj6 t250 t251 t252 t253 t254 t255 t256 t257 t292 _ A59.out).mono ?_
        rintro e w130 ⟨rfl, hb⟩
        refine ⟨_, rfl, ?_⟩
        have n0_ := Aside0.mk (blk_below (g := gb259) (o := .cells (zq10_c t250 t251 t252 t253 t254 t255 t256 t257) 29 (0, 0)) (by (with_reducible repeat (first | refine blk_drewN ?_ _ | refine blk_drew ?_ | refine blk_alloc ?_ _)); exact BK259.out) hb)
        have n1_ := Aside0.mk (blk_below (g := gb269) (o := .cells (zq10_c t260 t261 t262 t263 t264 t265 t266 t267) 29 (0, 0)) (by (with_reducible repeat (first | refine blk_drewN ?_ _ | refine blk_drew ?_ | refine blk_alloc ?_ _)); exact BK269.out) hb)
        have n2_ := Aside0.mk (blk_below (g := gb279) (o := .cells (zq10_c t270 t271 t272 t273 t274 t275 t276 t277) 29 (0, 0)) (by (with_reducible repeat (first | refine blk_drewN ?_ _ | refine blk_drew ?_ | refine blk_alloc ?_ _)); exact BK279.out) hb)
        have n3_ := Aside0.mk (blk_below (g := gb289) (o := .cells (zq10_c t280 t281 t282 t283 t284 t285 t286 t287) 29 (0, 0)) (by (with_reducible repeat (first | refine blk_drewN ?_ _ | refine blk_drew ?_ | refine blk_alloc ?_ _)); exact BK289.out) hb)
        have n4_ := Aside0.mk (below_step (by repeat (first | (with_reducible first | exact HB.out | apply below_alloc | apply pw_below_drewN | apply below_drew1 | refine below_set ?_ GE259.out | refine below_set ?_ GE269.out | refine below_set ?_ GE279.out | refine below_set ?_ GE289.out) | exact HB.out)) hb)
        clear BK259
        clear BK269
        clear BK279
        clear BK289
        clear HB
        have BK259 := n0_
        have BK269 := n1_
        have BK279 := n2_
        have BK289 := n3_
        have HB := n4_
        clear n0_ n1_ n2_ n3_ n4_
        (try clear hb)
        (try clear hb2)
        (try clear hk)
        (try clear hi)
        refine hK.out _ _ ⟨(blk_cell BK269.out 0).trans rfl, (blk_cell BK269.out 1).trans rfl, (blk_cell BK269.out 2).trans rfl, (blk_cell BK269.out 3).trans rfl, (blk_cell BK269.out 4).trans rfl, (blk_cell BK269.out 5).trans rfl, (blk_cell BK269.out 6).trans rfl, (blk_cell BK269.out 7).trans rfl, (blk_cell BK259.out 0).trans rfl, (blk_cell BK259.out 1).trans rfl, (blk_cell BK259.out 2).trans rfl, (blk_cell BK259.out 3).trans rfl, (blk_cell BK259.out 4).trans rfl, (blk_cell BK259.out 5).trans rfl, (blk_cell BK259.out 6).trans rfl, (blk_cell BK259.out 7).trans rfl⟩ (fun hHeld => ?_)
        clear hK K
        refine norm_ (a' := ?_) ?_ ?_
        rotate_left
        ·show Act.put _ (some 69) _ = _
         simp only [Act.put, zq10_s1, zq10_s2, zq10_s3, i64_w, i32_w]
         rfl
        refine pure_ (i := 13) (N := some 70) (v := ?_) (a' := ?_) zq10_m12 rfl rfl (any_of HT_.out (by kernel_rfl)) (fun _ _ _ h => h) (Or.inl ⟨by rfl, ?_⟩) ?_ ?_
        rotate_left
        ·intro w'
         go_simp
         with_reducible rfl
        rotate_left
        ·simp only [Act.put, zq10_s1, zq10_s2, zq10_s3, i64_w, i32_w]
         rfl
        refine pure_ (i := 14) (N := some 71) (v := ?_) (a' := ?_) zq10_m13 rfl rfl (any_of HT_.out (by kernel_rfl)) (fun _ _ _ h => h) (Or.inl ⟨by rfl, ?_⟩) ?_ ?_
        rotate_left
        ·intro w'
         go_simp
         with_reducible rfl
        rotate_left
        ·simp only [Act.put, zq10_s1, zq10_s2, zq10_s3, i64_w, i32_w]
         rfl
        refine pure_ (i := 15) (N := some 72) (v := ?_) (a' := ?_) zq10_m14 rfl rfl (any_of HT_.out (by kernel_rfl)) (fun _ _ _ h => h) (Or.inl ⟨by rfl, ?_⟩) ?_ ?_
        rotate_left
        ·intro w'
         go_simp
         with_reducible rfl
        rotate_left
        ·simp only [Act.put, zq10_s1, zq10_s2, zq10_s3, i64_w, i32_w]
         rfl
        refine pure_ (i := 16) (N := some 73) (v := undef) (a' := ?_) zq10_m15 rfl rfl (any_of HT_.out (by kernel_rfl)) (fun _ _ _ h => h) (Or.inr ⟨by rfl, rfl⟩) ?_ ?_
        rotate_left
        ·simp only [Act.put, zq10_s1, zq10_s2, zq10_s3, i64_w, i32_w]
         rfl
        refine pure_ (i := 17) (N := some 74) (v := undef) (a' := ?_) zq10_m16 rfl rfl (any_of HT_.out (by kernel_rfl)) (fun _ _ _ h => h) (Or.inr ⟨by rfl, rfl⟩) ?_ ?_
        rotate_left
        ·simp only [Act.put, zq10_s1, zq10_s2, zq10_s3, i64_w, i32_w]
         rfl
        refine pure_ (i := 18) (N := some 75) (v := undef) (a' := ?_) zq10_m17 rfl rfl (any_of HT_.out (by kernel_rfl)) (fun _ _ _ h => h) (Or.inr ⟨by rfl, rfl⟩) ?_ ?_
        rotate_left
        ·simp only [Act.put, zq10_s1, zq10_s2, zq10_s3, i64_w, i32_w]
         rfl
        refine pure_ (i := 19) (N := some 76) (v := undef) (a' := ?_) zq10_m18 rfl rfl (any_of HT_.out (by kernel_rfl)) (fun _ _ _ h => h) (Or.inr ⟨by rfl, rfl⟩) ?_ ?_
        rotate_left
        ·simp only [Act.put, zq10_s1, zq10_s2, zq10_s3, i64_w, i32_w]
         rfl
        refine pure_ (i := 20) (N := some 77) (v := ?_) (a' := ?_) zq10_m19 rfl rfl (any_of HT_.out (by kernel_rfl)) (fun _ _ _ h => h) (Or.inl ⟨by rfl, ?_⟩) ?_ ?_
        rotate_left
        ·intro w'
         go_simp
         with_reducible rfl
        rotate_left
        ·simp only [Act.put, zq10_s1, zq10_s2, zq10_s3, i64_w, i32_w]
         rfl
        refine pure_ (i := 21) (N := some 78) (v := ?_) (a' := ?_) zq10_m20 rfl rfl (any_of HT_.out (by kernel_rfl)) (fun _ _ _ h => h) (Or.inl ⟨by rfl, ?_⟩) ?_ ?_
        rotate_left
        ·intro w'
         go_simp
         with_reducible rfl
        rotate_left
        ·simp only [Act.put, zq10_s1, zq10_s2, zq10_s3, i64_w, i32_w]
         rfl
        refine pure_ (i := 22) (N := some 79) (v := undef) (a' := ?_) zq10_m21 rfl rfl (any_of HT_.out (by kernel_rfl)) (fun _ _ _ h => h) (Or.inr ⟨by rfl, rfl⟩) ?_ ?_
        rotate_left
        ·simp only [Act.put, zq10_s1, zq10_s2, zq10_s3, i64_w, i32_w]
         rfl
        refine pure_ (i := 23) (N := some 80) (v := ?_) (a' := ?_) zq10_m22 rfl rfl (any_of HT_.out (by kernel_rfl)) (fun _ _ _ h => h) (Or.inl ⟨by rfl, ?_⟩) ?_ ?_
        rotate_left
        ·intro w'
         go_simp
         with_reducible rfl
        rotate_left
        ·simp only [Act.put, zq10_s1, zq10_s2, zq10_s3, i64_w, i32_w]
         rfl
        refine pure_ (i := 24) (N := some 81) (v := ?_) (a' := ?_) zq10_m23 rfl rfl (any_of HT_.out (by kernel_rfl)) (fun _ _ _ h => h) (Or.inl ⟨by rfl, ?_⟩) ?_ ?_
        rotate_left
        ·intro w'
         go_simp
         with_reducible rfl
        rotate_left
        ·simp only [Act.put, zq10_s1, zq10_s2, zq10_s3, i64_w, i32_w]
         rfl
        refine pure_ (i := 25) (N := some 82) (v := undef) (a' := ?_) zq10_m24 rfl rfl (any_of HT_.out (by kernel_rfl)) (fun _ _ _ h => h) (Or.inr ⟨by rfl, rfl⟩) ?_ ?_
        rotate_left
        ·simp only [Act.put, zq10_s1, zq10_s2, zq10_s3, i64_w, i32_w]
         rfl
        refine pure_ (i := 26) (N := some 83) (v := undef) (a' := ?_) zq10_m25 rfl rfl (any_of HT_.out (by kernel_rfl)) (fun _ _ _ h => h) (Or.inr ⟨by rfl, rfl⟩) ?_ ?_
        rotate_left
        ·simp only [Act.put, zq10_s1, zq10_s2, zq10_s3, i64_w, i32_w]
         rfl
        refine pure_ (i := 27) (N := some 84) (v := undef) (a' := ?_) zq10_m26 rfl rfl (any_of HT_.out (by kernel_rfl)) (fun _ _ _ h => h) (Or.inr ⟨by rfl, rfl⟩) ?_ ?_
        rotate_left
        ·simp only [Act.put, zq10_s1, zq10_s2, zq10_s3, i64_w, i32_w]
         rfl
        refine pure_ (i := 28) (N := some 85) (v := ?_) (a' := ?_) zq10_m27 rfl rfl (any_of HT_.out (by kernel_rfl)) (fun _ _ _ h => h) (Or.inl ⟨by rfl, ?_⟩) ?_ ?_
        rotate_left
        ·intro w'
         go_simp
         with_reducible rfl
        rotate_left
        ·simp only [Act.put, zq10_s1, zq10_s2, zq10_s3, i64_w, i32_w]
         rfl
        refine pure_ (i := 29) (N := some 2) (v := ?_) (a' := ?_) zq10_m28 rfl rfl (any_of HT_.out (by kernel_rfl)) (fun _ _ _ h => h) (Or.inl ⟨by rfl, ?_⟩) ?_ ?_
        rotate_left
        ·intro w'
         go_simp
         with_reducible rfl
        rotate_left
        ·simp only [Act.put, zq10_s1, zq10_s2, zq10_s3, i64_w, i32_w]
         rfl
        refine done_ (done_of HT_.out (by kernel_rfl)) ?_
        try go_wp2
        go_ret
        exact ⟨by first | rfl | (simp [*] <;> rfl), by repeat (first | (with_reducible first | exact HB.out | apply below_alloc | apply pw_below_drewN | apply below_drew1 | refine below_set ?_ GE259.out | refine below_set ?_ GE269.out | refine below_set ?_ GE279.out | refine below_set ?_ GE289.out) | exact HB.out)⟩
      ·rw [if_neg c57] at H
       have c57b0 : (t267 == t258) = false := beq_eq_false_iff_ne.mpr c57
       have c57b1 : (t267 != t258) = true := bne_iff_ne.mpr c57
       obtain rfl := Option.some.inj H
       have hnb131 := NB269_259.out
       have hnc131 := NB259_269.out
       have hnb132 := NB269_279.out
       have hnc132 := NB279_269.out
       have hcz133_0 : wc.cell? ⟨gb269, 0, none⟩ = some (.int .i64 t260) := (blk_cell BK269.out 0).trans rfl
       have hcz133_1 : wc.cell? ⟨gb269, 1, none⟩ = some (.int .i64 t261) := (blk_cell BK269.out 1).trans rfl
       have hcz133_2 : wc.cell? ⟨gb269, 2, none⟩ = some (.int .i64 t262) := (blk_cell BK269.out 2).trans rfl
       have hcz133_3 : wc.cell? ⟨gb269, 3, none⟩ = some (.int .i64 t263) := (blk_cell BK269.out 3).trans rfl
       have hcz133_4 : wc.cell? ⟨gb269, 4, none⟩ = some (.int .i64 t264) := (blk_cell BK269.out 4).trans rfl
       have hcz133_5 : wc.cell? ⟨gb269, 5, none⟩ = some (.int .i64 t265) := (blk_cell BK269.out 5).trans rfl
       have hcz133_6 : wc.cell? ⟨gb269, 6, none⟩ = some (.bool t266) := (blk_cell BK269.out 6).trans rfl
       have hcz133_7 : wc.cell? ⟨gb269, 7, none⟩ = some (.int .i64 t267) := (blk_cell BK269.out 7).trans rfl
       have hfz133_0 := blk_frozen BK269.out 0
       have hfz133_1 := blk_frozen BK269.out 1
       have hfz133_2 := blk_frozen BK269.out 2
       have hfz133_3 := blk_frozen BK269.out 3
       have hfz133_4 := blk_frozen BK269.out 4
       have hfz133_5 := blk_frozen BK269.out 5
       have hfz133_6 := blk_frozen BK269.out 6
       have hfz133_7 := blk_frozen BK269.out 7
       have hnb134 := NB259_279.out
       have hnc134 := NB279_259.out
       have hcz135_0 : wc.cell? ⟨gb259, 0, none⟩ = some (.int .i64 t250) := (blk_cell BK259.out 0).trans rfl
       have hcz135_1 : wc.cell? ⟨gb259, 1, none⟩ = some (.int .i64 t251) := (blk_cell BK259.out 1).trans rfl
       have hcz135_2 : wc.cell? ⟨gb259, 2, none⟩ = some (.int .i64 t252) := (blk_cell BK259.out 2).trans rfl
       have hcz135_3 : wc.cell? ⟨gb259, 3, none⟩ = some (.int .i64 t253) := (blk_cell BK259.out 3).trans rfl
       have hcz135_4 : wc.cell? ⟨gb259, 4, none⟩ = some (.int .i64 t254) := (blk_cell BK259.out 4).trans rfl
       have hcz135_5 : wc.cell? ⟨gb259, 5, none⟩ = some (.int .i64 t255) := (blk_cell BK259.out 5).trans rfl
       have hcz135_6 : wc.cell? ⟨gb259, 6, none⟩ = some (.bool t256) := (blk_cell BK259.out 6).trans rfl
       have hcz135_7 : wc.cell? ⟨gb259, 7, none⟩ = some (.int .i64 t257) := (blk_cell BK259.out 7).trans rfl
       have hfz135_0 := blk_frozen BK259.out 0
       have hfz135_1 := blk_frozen BK259.out 1
       have hfz135_2 := blk_frozen BK259.out 2
       have hfz135_3 := blk_frozen BK259.out 3
       have hfz135_4 := blk_frozen BK259.out 4
       have hfz135_5 := blk_frozen BK259.out 5
       have hfz135_6 := blk_frozen BK259.out 6
       have hfz135_7 := blk_frozen BK259.out 7
       try go_wp2_with (first | ((with_reducible refine gate_callee (f := 27) rfl ?_); refine goesL_ (some 54) rfl rfl Try.func27 (by kernel_rfl) rfl #[.agg (zq10_c t260 t261 t262 t263 t264 t265 t266 t267), .int .i64 t257] rfl (by (try simp only [List.map_toArray, List.map_cons, List.map_nil]); first | done | rfl | (simp only [List.length_drop, List.length_take]; rfl)) ?_; (with_reducible refine (impl_Shifted.calls kj6 t260 t261 t262 t263 t264 t265 t266 t267 t257 t280 t281 t282 t283 t284 t285 t286 t287 t288 _ A54.out).mono ?_); rintro e w136 ⟨rfl, hb⟩; refine ⟨_, rfl, ?_⟩; have n0_ := Aside0.mk (blk_below (g := gb259) (o := .cells (zq10_c t250 t251 t252 t253 t254 t255 t256 t257) 29 (0, 0)) (by (with_reducible repeat (first | refine blk_drewN ?_ _ | refine blk_drew ?_ | refine blk_alloc ?_ _)); exact BK259.out) hb); have n1_ := Aside0.mk (blk_below (g := gb269) (o := .cells (zq10_c t260 t261 t262 t263 t264 t265 t266 t267) 29 (0, 0)) (by (with_reducible repeat (first | refine blk_drewN ?_ _ | refine blk_drew ?_ | refine blk_alloc ?_ _)); exact BK269.out) hb); have n2_ := Aside0.mk (blk_below (g := gb279) (o := .cells (zq10_c t270 t271 t272 t273 t274 t275 t276 t277) 29 (0, 0)) (by (with_reducible repeat (first | refine blk_drewN ?_ _ | refine blk_drew ?_ | refine blk_alloc ?_ _)); exact BK279.out) hb); have n3_ := Aside0.mk (below_step (by repeat (first | (with_reducible first | exact HB.out | apply below_alloc | apply pw_below_drewN | apply below_drew1 | refine below_set ?_ GE259.out | refine below_set ?_ GE269.out | refine below_set ?_ GE279.out) | exact HB.out)) hb); clear BK259; clear BK269; clear BK279; clear HB; have BK259 := n0_; have BK269 := n1_; have BK279 := n2_; have HB := n3_; clear n0_ n1_ n2_ n3_; (try clear hb); (try clear hb2); (try clear hk); (try clear hi)) | ((with_reducible refine gate_dst (N := 9) rfl ?_); refine box_event ?hg (N := 9) ?hd (cs := #[.int .i64 0, .int .i64 0, .int .i64 0, .int .i64 0, .int .i64 0, .int .i64 0, .bool false, .int .i64 0]) (t := 29) ?hr ?_; (case hd => rfl); (case hg => rfl); (case hr => first | (go_simp; done) | (go_simp; rfl)); intro gb289 hg w137 hbox hb; have n0_ := Aside0.mk (blk_below (g := gb259) (o := .cells (zq10_c t250 t251 t252 t253 t254 t255 t256 t257) 29 (0, 0)) (by (with_reducible repeat (first | refine blk_drewN ?_ _ | refine blk_drew ?_ | refine blk_alloc ?_ _)); exact BK259.out) hb); have n1_ := Aside0.mk (blk_below (g := gb269) (o := .cells (zq10_c t260 t261 t262 t263 t264 t265 t266 t267) 29 (0, 0)) (by (with_reducible repeat (first | refine blk_drewN ?_ _ | refine blk_drew ?_ | refine blk_alloc ?_ _)); exact BK269.out) hb); have n2_ := Aside0.mk (blk_below (g := gb279) (o := .cells (zq10_c t270 t271 t272 t273 t274 t275 t276 t277) 29 (0, 0)) (by (with_reducible repeat (first | refine blk_drewN ?_ _ | refine blk_drew ?_ | refine blk_alloc ?_ _)); exact BK279.out) hb); have n3_ := Aside0.mk (below_step (by repeat (first | (with_reducible first | exact HB.out | apply below_alloc | apply pw_below_drewN | apply below_drew1 | refine below_set ?_ GE259.out | refine below_set ?_ GE269.out | refine below_set ?_ GE279.out) | exact HB.out)) hb); have n4_ := Aside0.mk (hbox); have n5_ := Aside0.mk ((by rw [hg]; exact (below_size (by repeat (first | (with_reducible first | exact HB.out | apply below_alloc | apply pw_below_drewN | apply below_drew1 | refine below_set ?_ GE259.out | refine below_set ?_ GE269.out | refine below_set ?_ GE279.out) | exact HB.out))) : w.heap.size ≤ gb289)); have n6_ := Aside0.mk ((by rw [hg]; exact (below_size (by repeat (first | (with_reducible first | exact HB.out | apply below_alloc | apply pw_below_drewN | apply below_drew1 | refine below_set ?_ GE259.out | refine below_set ?_ GE269.out | refine below_set ?_ GE279.out) | exact HB.out))) : w.heap.size ≤ gb289)); have n7_ := Aside0.mk ((by rw [hg]; exact Nat.ne_of_lt (blk_lt (g := gb259) (o := .cells (zq10_c t250 t251 t252 t253 t254 t255 t256 t257) 29 (0, 0)) (by (with_reducible repeat (first | refine blk_drewN ?_ _ | refine blk_drew ?_ | refine blk_alloc ?_ _)); exact BK259.out)) : gb259 ≠ gb289)); have n8_ := Aside0.mk ((by rw [hg]; exact Nat.ne_of_gt (blk_lt (g := gb259) (o := .cells (zq10_c t250 t251 t252 t253 t254 t255 t256 t257) 29 (0, 0)) (by (with_reducible repeat (first | refine blk_drewN ?_ _ | refine blk_drew ?_ | refine blk_alloc ?_ _)); exact BK259.out)) : gb289 ≠ gb259)); have n9_ := Aside0.mk ((by rw [hg]; exact Nat.ne_of_lt (blk_lt (g := gb269) (o := .cells (zq10_c t260 t261 t262 t263 t264 t265 t266 t267) 29 (0, 0)) (by (with_reducible repeat (first | refine blk_drewN ?_ _ | refine blk_drew ?_ | refine blk_alloc ?_ _)); exact BK269.out)) : gb269 ≠ gb289)); have n10_ := Aside0.mk ((by rw [hg]; exact Nat.ne_of_gt (blk_lt (g := gb269) (o := .cells (zq10_c t260 t261 t262 t263 t264 t265 t266 t267) 29 (0, 0)) (by (with_reducible repeat (first | refine blk_drewN ?_ _ | refine blk_drew ?_ | refine blk_alloc ?_ _)); exact BK269.out)) : gb289 ≠ gb269)); have n11_ := Aside0.mk ((by rw [hg]; exact Nat.ne_of_lt (blk_lt (g := gb279) (o := .cells (zq10_c t270 t271 t272 t273 t274 t275 t276 t277) 29 (0, 0)) (by (with_reducible repeat (first | refine blk_drewN ?_ _ | refine blk_drew ?_ | refine blk_alloc ?_ _)); exact BK279.out)) : gb279 ≠ gb289)); have n12_ := Aside0.mk ((by rw [hg]; exact Nat.ne_of_gt (blk_lt (g := gb279) (o := .cells (zq10_c t270 t271 t272 t273 t274 t275 t276 t277) 29 (0, 0)) (by (with_reducible repeat (first | refine blk_drewN ?_ _ | refine blk_drew ?_ | refine blk_alloc ?_ _)); exact BK279.out)) : gb289 ≠ gb279)); clear BK259; clear BK269; clear BK279; clear HB; have BK259 := n0_; have BK269 := n1_; have BK279 := n2_; have HB := n3_; have BK289 := n4_; have GW289 := n5_; have GE289 := n6_; have NB259_289 := n7_; have NB289_259 := n8_; have NB269_289 := n9_; have NB289_269 := n10_; have NB279_289 := n11_; have NB289_279 := n12_; clear n0_ n1_ n2_ n3_ n4_ n5_ n6_ n7_ n8_ n9_ n10_ n11_ n12_; clear hb hbox hg; have hnb138 := NB289_259.out; have hnc138 := NB259_289.out; have hnb139 := NB289_269.out; have hnc139 := NB269_289.out; have hnb140 := NB289_279.out; have hnc140 := NB279_289.out; have hcz141_0 : w137.cell? ⟨gb289, 0, none⟩ = some (.int .i64 0) := (blk_cell BK289.out 0).trans rfl; have hcz141_1 : w137.cell? ⟨gb289, 1, none⟩ = some (.int .i64 0) := (blk_cell BK289.out 1).trans rfl; have hcz141_2 : w137.cell? ⟨gb289, 2, none⟩ = some (.int .i64 0) := (blk_cell BK289.out 2).trans rfl; have hcz141_3 : w137.cell? ⟨gb289, 3, none⟩ = some (.int .i64 0) := (blk_cell BK289.out 3).trans rfl; have hcz141_4 : w137.cell? ⟨gb289, 4, none⟩ = some (.int .i64 0) := (blk_cell BK289.out 4).trans rfl; have hcz141_5 : w137.cell? ⟨gb289, 5, none⟩ = some (.int .i64 0) := (blk_cell BK289.out 5).trans rfl; have hcz141_6 : w137.cell? ⟨gb289, 6, none⟩ = some (.bool false) := (blk_cell BK289.out 6).trans rfl; have hcz141_7 : w137.cell? ⟨gb289, 7, none⟩ = some (.int .i64 0) := (blk_cell BK289.out 7).trans rfl; have hfz141_0 := blk_frozen BK289.out 0; have hfz141_1 := blk_frozen BK289.out 1; have hfz141_2 := blk_frozen BK289.out 2; have hfz141_3 := blk_frozen BK289.out 3; have hfz141_4 := blk_frozen BK289.out 4; have hfz141_5 := blk_frozen BK289.out 5; have hfz141_6 := blk_frozen BK289.out 6; have hfz141_7 := blk_frozen BK289.out 7) | ((with_reducible refine gate_store (t := 29) (p := 9) rfl ?_); refine store_event (t := 29) (p := 9) (v := ?vo_w142) (w1 := ((((((((w137.setCell ⟨gb289, 0, none⟩ (.int .i64 t280)).setCell ⟨gb289, 1, none⟩ (.int .i64 t281)).setCell ⟨gb289, 2, none⟩ (.int .i64 t282)).setCell ⟨gb289, 3, none⟩ (.int .i64 t283)).setCell ⟨gb289, 4, none⟩ (.int .i64 t284)).setCell ⟨gb289, 5, none⟩ (.int .i64 t285)).setCell ⟨gb289, 6, none⟩ (.bool t286)).setCell ⟨gb289, 7, none⟩ (.int .i64 t287))) ?hg ?ho ?hn ?hr ?_; (case ho => rfl); (case hg => rfl); (case hn => rfl); (case hr => first | (go_simp; done) | (go_simp; rfl)); intro w142 hw; have n0_ : Aside0 (w142.heap[gb259]? = some (.cells (zq10_c t250 t251 t252 t253 t254 t255 t256 t257) 29 (0, 0))) := ⟨(by rw [hw]; exact (by (with_reducible repeat (first | refine blk_drewN ?_ _ | refine blk_drew ?_ | refine blk_alloc ?_ _ | refine blk_far ?_ NB259_289.out _)); (with_reducible repeat (first | refine blk_drewN ?_ _ | refine blk_drew ?_ | refine blk_alloc ?_ _)); exact BK259.out))⟩; have n1_ : Aside0 (w142.heap[gb269]? = some (.cells (zq10_c t260 t261 t262 t263 t264 t265 t266 t267) 29 (0, 0))) := ⟨(by rw [hw]; exact (by (with_reducible repeat (first | refine blk_drewN ?_ _ | refine blk_drew ?_ | refine blk_alloc ?_ _ | refine blk_far ?_ NB269_289.out _)); (with_reducible repeat (first | refine blk_drewN ?_ _ | refine blk_drew ?_ | refine blk_alloc ?_ _)); exact BK269.out))⟩; have n2_ : Aside0 (w142.heap[gb279]? = some (.cells (zq10_c t270 t271 t272 t273 t274 t275 t276 t277) 29 (0, 0))) := ⟨(by rw [hw]; exact (by (with_reducible repeat (first | refine blk_drewN ?_ _ | refine blk_drew ?_ | refine blk_alloc ?_ _ | refine blk_far ?_ NB279_289.out _)); (with_reducible repeat (first | refine blk_drewN ?_ _ | refine blk_drew ?_ | refine blk_alloc ?_ _)); exact BK279.out))⟩; have n3_ : Aside0 (w142.heap[gb289]? = some (.cells (zq10_c t280 t281 t282 t283 t284 t285 t286 t287) 29 (0, 0))) := ⟨(by rw [hw]; exact (by (with_reducible repeat (first | refine blk_drewN ?_ _ | refine blk_drew ?_ | refine blk_alloc ?_ _)); refine zq10_put8 (cs := #[.int .i64 0, .int .i64 0, .int .i64 0, .int .i64 0, .int .i64 0, .int .i64 0, .bool false, .int .i64 0]) ?_ rfl; (with_reducible repeat (first | refine blk_drewN ?_ _ | refine blk_drew ?_ | refine blk_alloc ?_ _)); exact BK289.out))⟩; have n4_ : Aside0 (Below w.heap.size w w142) := ⟨(by rw [hw]; exact (by repeat (first | (with_reducible first | exact HB.out | apply below_alloc | apply pw_below_drewN | apply below_drew1 | refine below_set ?_ GE259.out | refine below_set ?_ GE269.out | refine below_set ?_ GE279.out | refine below_set ?_ GE289.out) | exact HB.out)))⟩; clear hw; clear BK259; clear BK269; clear BK279; clear BK289; clear HB; have BK259 := n0_; have BK269 := n1_; have BK279 := n2_; have BK289 := n3_; have HB := n4_; clear n0_ n1_ n2_ n3_ n4_))
       have n0_ := Aside0.mk (blk_drew BK259.out)
       have n1_ := Aside0.mk (blk_drew BK269.out)
       have n2_ := Aside0.mk (blk_drew BK279.out)
       have n3_ := Aside0.mk (blk_drew BK289.out)
       have n4_ := Aside0.mk (below_drew1 HB.out)
       clear BK259
       clear BK269
       clear BK279
       clear BK289
       clear HB
       have BK259 := n0_
       have BK269 := n1_
       have BK279 := n2_
       have BK289 := n3_
       have HB := n4_
       clear n0_ n1_ n2_ n3_ n4_
       refine start_ (n := 30) (S := fun w' => w'.cell? ⟨gb269, 0, none⟩ = some (.int .i64 t260) ∧ w'.cell? ⟨gb269, 1, none⟩ = some (.int .i64 t261) ∧ w'.cell? ⟨gb269, 2, none⟩ = some (.int .i64 t262) ∧ w'.cell? ⟨gb269, 3, none⟩ = some (.int .i64 t263) ∧ w'.cell? ⟨gb269, 4, none⟩ = some (.int .i64 t264) ∧ w'.cell? ⟨gb269, 5, none⟩ = some (.int .i64 t265) ∧ w'.cell? ⟨gb269, 6, none⟩ = some (.bool t266) ∧ w'.cell? ⟨gb269, 7, none⟩ = some (.int .i64 t267)) (ds := []) zq10_m0 (by kernel_rfl) rfl rfl ⟨(blk_cell BK269.out 0).trans rfl, (blk_cell BK269.out 1).trans rfl, (blk_cell BK269.out 2).trans rfl, (blk_cell BK269.out 3).trans rfl, (blk_cell BK269.out 4).trans rfl, (blk_cell BK269.out 5).trans rfl, (blk_cell BK269.out 6).trans rfl, (blk_cell BK269.out 7).trans rfl⟩ (fun hHeld => ?_); refine with_tabW laws_FnShifted.tab9 laws_FnShifted.bits9 (fun HT_ HW_ => ?_)
       generalize w142.drew = w143 at BK259 BK269 BK279 BK289 HB hHeld ⊢
       refine take_ (i := 0) (N := some 57) (v := ?_) (a' := ?_) zq10_m1 rfl rfl (take_ofW HT_.out HW_.out (by kernel_rfl)) (fun _ _ _ h => h) (Or.inl ⟨by rfl, ?_⟩) hHeld ?_ ?_
       rotate_left
       ·rintro w' ⟨s0, s1, s2, s3, s4, s5, s6, s7⟩
        go_simp
        with_reducible rfl
       rotate_left
       ·simp only [Act.put, zq10_s1, zq10_s2, zq10_s3, i64_w, i32_w]
        rfl
       refine one_ (i := 1) (N := some 58) zq10_m2 rfl rfl (one_of HT_.out (by kernel_rfl)) (by decide) (fun K hK => ?_)
       refine goes_ Try.func19 (by kernel_rfl) rfl #[.agg (zq10_c t260 t261 t262 t263 t264 t265 t266 t267)] (by rfl) rfl rfl (by (try simp only [List.map_toArray, List.map_cons, List.map_nil]); first | done | rfl | (simp only [List.length_drop, List.length_take]; rfl)) ?_
       with_reducible refine (impl_DateOk.calls t260 t261 t262 t263 t264 t265 t266 t267 true _ A55.out).mono ?_
       rintro e w144 ⟨rfl, hb⟩
       refine ⟨_, rfl, ?_⟩
       have n0_ := Aside0.mk (blk_below (g := gb259) (o := .cells (zq10_c t250 t251 t252 t253 t254 t255 t256 t257) 29 (0, 0)) (by (with_reducible repeat (first | refine blk_drewN ?_ _ | refine blk_drew ?_ | refine blk_alloc ?_ _)); exact BK259.out) hb)
       have n1_ := Aside0.mk (blk_below (g := gb269) (o := .cells (zq10_c t260 t261 t262 t263 t264 t265 t266 t267) 29 (0, 0)) (by (with_reducible repeat (first | refine blk_drewN ?_ _ | refine blk_drew ?_ | refine blk_alloc ?_ _)); exact BK269.out) hb)
       have n2_ := Aside0.mk (blk_below (g := gb279) (o := .cells (zq10_c t270 t271 t272 t273 t274 t275 t276 t277) 29 (0, 0)) (by (with_reducible repeat (first | refine blk_drewN ?_ _ | refine blk_drew ?_ | refine blk_alloc ?_ _)); exact BK279.out) hb)
       have n3_ := Aside0.mk (blk_below (g := gb289) (o := .cells (zq10_c t280 t281 t282 t283 t284 t285 t286 t287) 29 (0, 0)) (by (with_reducible repeat (first | refine blk_drewN ?_ _ | refine blk_drew ?_ | refine blk_alloc ?_ _)); exact BK289.out) hb)
       have n4_ := Aside0.mk (below_step (by repeat (first | (with_reducible first | exact HB.out | apply below_alloc | apply pw_below_drewN | apply below_drew1 | refine below_set ?_ GE259.out | refine below_set ?_ GE269.out | refine below_set ?_ GE279.out | refine below_set ?_ GE289.out) | exact HB.out)) hb)
       clear BK259
       clear BK269
       clear BK279
       clear BK289
       clear HB
       have BK259 := n0_
       have BK269 := n1_
       have BK279 := n2_
       have BK289 := n3_
       have HB := n4_
       clear n0_ n1_ n2_ n3_ n4_
       (try clear hb)
       (try clear hb2)
       (try clear hk)
       (try clear hi)
       refine hK.out _ _ ⟨(blk_cell BK269.out 0).trans rfl, (blk_cell BK269.out 1).trans rfl, (blk_cell BK269.out 2).trans rfl, (blk_cell BK269.out 3).trans rfl, (blk_cell BK269.out 4).trans rfl, (blk_cell BK269.out 5).trans rfl, (blk_cell BK269.out 6).trans rfl, (blk_cell BK269.out 7).trans rfl⟩ (fun hHeld => ?_)
       clear hK K
       refine norm_ (a' := ?_) ?_ ?_
       rotate_left
       ·show Act.put _ (some 58) _ = _
        simp only [Act.put, zq10_s1, zq10_s2, zq10_s3, i64_w, i32_w]
        rfl
       refine pure_ (i := 2) (N := some 59) (v := ?_) (a' := ?_) zq10_m3 rfl rfl (any_of HT_.out (by kernel_rfl)) (fun _ _ _ h => h) (Or.inl ⟨by rfl, ?_⟩) ?_ ?_
       rotate_left
       ·intro w'
        go_simp
        with_reducible rfl
       rotate_left
       ·simp only [Act.put, zq10_s1, zq10_s2, zq10_s3, i64_w, i32_w]
        rfl
       refine pure_ (i := 3) (N := some 60) (v := ?_) (a' := ?_) zq10_m4 rfl rfl (any_of HT_.out (by kernel_rfl)) (fun _ _ _ h => h) (Or.inl ⟨by rfl, ?_⟩) ?_ ?_
       rotate_left
       ·intro w'
        go_simp
        with_reducible rfl
       rotate_left
       ·simp only [Act.put, zq10_s1, zq10_s2, zq10_s3, i64_w, i32_w]
        rfl
       refine pure_ (i := 5) (N := some 62) (v := ?_) (a' := ?_) zq10_m29 rfl rfl (any_of HT_.out (by kernel_rfl)) (fun _ _ _ h => h) (Or.inl ⟨by rfl, ?_⟩) ?_ ?_
       rotate_left
       ·intro w'
        go_simp
        with_reducible rfl
       rotate_left
       ·simp only [Act.put, zq10_s1, zq10_s2, zq10_s3, i64_w, i32_w]
        rfl
       refine take_ (i := 4) (N := some 61) (v := ?_) (a' := ?_) zq10_m5 rfl rfl (take_ofW HT_.out HW_.out (by kernel_rfl)) (fun _ _ _ h => h) (Or.inl ⟨by rfl, ?_⟩) hHeld ?_ ?_
       rotate_left
       ·rintro w' ⟨s0, s1, s2, s3, s4, s5, s6, s7⟩
        go_simp
        with_reducible rfl
       rotate_left
       ·simp only [Act.put, zq10_s1, zq10_s2, zq10_s3, i64_w, i32_w]
        rfl
       refine pure_ (i := 6) (N := some 63) (v := ?_) (a' := ?_) zq10_m6 rfl rfl (any_of HT_.out (by kernel_rfl)) (fun _ _ _ h => h) (Or.inl ⟨by rfl, ?_⟩) ?_ ?_
       rotate_left
       ·intro w'
        go_simp
        with_reducible rfl
       rotate_left
       ·simp only [Act.put, zq10_s1, zq10_s2, zq10_s3, i64_w, i32_w]
        rfl
       refine pure_ (i := 7) (N := some 64) (v := ?_) (a' := ?_) zq10_m7 rfl rfl (any_of HT_.out (by kernel_rfl)) (fun _ _ _ h => h) (Or.inl ⟨by rfl, ?_⟩) ?_ ?_
       rotate_left
       ·intro w'
        go_simp
        with_reducible rfl
       rotate_left
       ·simp only [Act.put, zq10_s1, zq10_s2, zq10_s3, i64_w, i32_w]
        rfl
       refine pure_ (i := 8) (N := some 65) (v := ?_) (a' := ?_) zq10_m8 rfl rfl (any_of HT_.out (by kernel_rfl)) (fun _ _ _ h => h) (Or.inl ⟨by rfl, ?_⟩) ?_ ?_
       rotate_left
       ·intro w'
        go_simp
        with_reducible rfl
       rotate_left
       ·simp only [Act.put, zq10_s1, zq10_s2, zq10_s3, i64_w, i32_w]
        rfl
       refine pure_ (i := 9) (N := some 66) (v := undef) (a' := ?_) zq10_m9 rfl rfl (any_of HT_.out (by kernel_rfl)) (fun _ _ _ h => h) (Or.inr ⟨by rfl, rfl⟩) ?_ ?_
       rotate_left
       ·simp only [Act.put, zq10_s1, zq10_s2, zq10_s3, i64_w, i32_w]
        rfl
       refine pure_ (i := 10) (N := some 67) (v := undef) (a' := ?_) zq10_m31 rfl rfl (any_of HT_.out (by kernel_rfl)) (fun _ _ _ h => h) (Or.inr ⟨by rfl, rfl⟩) ?_ ?_
       rotate_left
       ·simp only [Act.put, zq10_s1, zq10_s2, zq10_s3, i64_w, i32_w]
        rfl
       refine pure_ (i := 11) (N := some 68) (v := undef) (a' := ?_) zq10_m10 rfl rfl (any_of HT_.out (by kernel_rfl)) (fun _ _ _ h => h) (Or.inr ⟨by rfl, rfl⟩) ?_ ?_
       rotate_left
       ·simp only [Act.put, zq10_s1, zq10_s2, zq10_s3, i64_w, i32_w]
        rfl
       refine pure_ (i := 12) (N := some 69) (v := undef) (a' := ?_) zq10_m11 rfl rfl (any_of HT_.out (by kernel_rfl)) (fun _ _ _ h => h) (Or.inr ⟨by rfl, rfl⟩) ?_ ?_
       rotate_left
       ·simp only [Act.put, zq10_s1, zq10_s2, zq10_s3, i64_w, i32_w]
        rfl
       refine pure_ (i := 13) (N := some 70) (v := undef) (a' := ?_) zq10_m12 rfl rfl (any_of HT_.out (by kernel_rfl)) (fun _ _ _ h => h) (Or.inr ⟨by rfl, rfl⟩) ?_ ?_
       rotate_left
       ·simp only [Act.put, zq10_s1, zq10_s2, zq10_s3, i64_w, i32_w]
        rfl
       refine pure_ (i := 14) (N := some 71) (v := ?_) (a' := ?_) zq10_m13 rfl rfl (any_of HT_.out (by kernel_rfl)) (fun _ _ _ h => h) (Or.inl ⟨by rfl, ?_⟩) ?_ ?_
       rotate_left
       ·intro w'
        go_simp
        with_reducible rfl
       rotate_left
       ·simp only [Act.put, zq10_s1, zq10_s2, zq10_s3, i64_w, i32_w]
        rfl
       refine pure_ (i := 15) (N := some 72) (v := ?_) (a' := ?_) zq10_m14 rfl rfl (any_of HT_.out (by kernel_rfl)) (fun _ _ _ h => h) (Or.inl ⟨by rfl, ?_⟩) ?_ ?_
       rotate_left
       ·intro w'
        go_simp
        with_reducible rfl
       rotate_left
       ·simp only [Act.put, zq10_s1, zq10_s2, zq10_s3, i64_w, i32_w]
        rfl
       refine pure_ (i := 16) (N := some 73) (v := undef) (a' := ?_) zq10_m15 rfl rfl (any_of HT_.out (by kernel_rfl)) (fun _ _ _ h => h) (Or.inr ⟨by rfl, rfl⟩) ?_ ?_
       rotate_left
       ·simp only [Act.put, zq10_s1, zq10_s2, zq10_s3, i64_w, i32_w]
        rfl
       refine pure_ (i := 17) (N := some 74) (v := undef) (a' := ?_) zq10_m16 rfl rfl (any_of HT_.out (by kernel_rfl)) (fun _ _ _ h => h) (Or.inr ⟨by rfl, rfl⟩) ?_ ?_
       rotate_left
       ·simp only [Act.put, zq10_s1, zq10_s2, zq10_s3, i64_w, i32_w]
        rfl
       refine pure_ (i := 18) (N := some 75) (v := undef) (a' := ?_) zq10_m17 rfl rfl (any_of HT_.out (by kernel_rfl)) (fun _ _ _ h => h) (Or.inr ⟨by rfl, rfl⟩) ?_ ?_
       rotate_left
       ·simp only [Act.put, zq10_s1, zq10_s2, zq10_s3, i64_w, i32_w]
        rfl
       refine pure_ (i := 19) (N := some 76) (v := undef) (a' := ?_) zq10_m18 rfl rfl (any_of HT_.out (by kernel_rfl)) (fun _ _ _ h => h) (Or.inr ⟨by rfl, rfl⟩) ?_ ?_
       rotate_left
       ·simp only [Act.put, zq10_s1, zq10_s2, zq10_s3, i64_w, i32_w]
        rfl
       refine pure_ (i := 20) (N := some 77) (v := ?_) (a' := ?_) zq10_m19 rfl rfl (any_of HT_.out (by kernel_rfl)) (fun _ _ _ h => h) (Or.inl ⟨by rfl, ?_⟩) ?_ ?_
       rotate_left
       ·intro w'
        go_simp
        with_reducible rfl
       rotate_left
       ·simp only [Act.put, zq10_s1, zq10_s2, zq10_s3, i64_w, i32_w]
        rfl
       refine pure_ (i := 21) (N := some 78) (v := ?_) (a' := ?_) zq10_m20 rfl rfl (any_of HT_.out (by kernel_rfl)) (fun _ _ _ h => h) (Or.inl ⟨by rfl, ?_⟩) ?_ ?_
       rotate_left
       ·intro w'
        go_simp
        with_reducible rfl
       rotate_left
       ·simp only [Act.put, zq10_s1, zq10_s2, zq10_s3, i64_w, i32_w]
        rfl
       refine pure_ (i := 22) (N := some 79) (v := undef) (a' := ?_) zq10_m21 rfl rfl (any_of HT_.out (by kernel_rfl)) (fun _ _ _ h => h) (Or.inr ⟨by rfl, rfl⟩) ?_ ?_
       rotate_left
       ·simp only [Act.put, zq10_s1, zq10_s2, zq10_s3, i64_w, i32_w]
        rfl
       refine pure_ (i := 23) (N := some 80) (v := ?_) (a' := ?_) zq10_m22 rfl rfl (any_of HT_.out (by kernel_rfl)) (fun _ _ _ h => h) (Or.inl ⟨by rfl, ?_⟩) ?_ ?_
       rotate_left
       ·intro w'
        go_simp
        with_reducible rfl
       rotate_left
       ·simp only [Act.put, zq10_s1, zq10_s2, zq10_s3, i64_w, i32_w]
        rfl
       refine pure_ (i := 24) (N := some 81) (v := ?_) (a' := ?_) zq10_m23 rfl rfl (any_of HT_.out (by kernel_rfl)) (fun _ _ _ h => h) (Or.inl ⟨by rfl, ?_⟩) ?_ ?_
       rotate_left
       ·intro w'
        go_simp
        with_reducible rfl
       rotate_left
       ·simp only [Act.put, zq10_s1, zq10_s2, zq10_s3, i64_w, i32_w]
        rfl
       refine pure_ (i := 25) (N := some 82) (v := undef) (a' := ?_) zq10_m24 rfl rfl (any_of HT_.out (by kernel_rfl)) (fun _ _ _ h => h) (Or.inr ⟨by rfl, rfl⟩) ?_ ?_
       rotate_left
       ·simp only [Act.put, zq10_s1, zq10_s2, zq10_s3, i64_w, i32_w]
        rfl
       refine pure_ (i := 26) (N := some 83) (v := undef) (a' := ?_) zq10_m25 rfl rfl (any_of HT_.out (by kernel_rfl)) (fun _ _ _ h => h) (Or.inr ⟨by rfl, rfl⟩) ?_ ?_
       rotate_left
       ·simp only [Act.put, zq10_s1, zq10_s2, zq10_s3, i64_w, i32_w]
        rfl
       refine pure_ (i := 27) (N := some 84) (v := undef) (a' := ?_) zq10_m26 rfl rfl (any_of HT_.out (by kernel_rfl)) (fun _ _ _ h => h) (Or.inr ⟨by rfl, rfl⟩) ?_ ?_
       rotate_left
       ·simp only [Act.put, zq10_s1, zq10_s2, zq10_s3, i64_w, i32_w]
        rfl
       refine pure_ (i := 28) (N := some 85) (v := ?_) (a' := ?_) zq10_m27 rfl rfl (any_of HT_.out (by kernel_rfl)) (fun _ _ _ h => h) (Or.inl ⟨by rfl, ?_⟩) ?_ ?_
       rotate_left
       ·intro w'
        go_simp
        with_reducible rfl
       rotate_left
       ·simp only [Act.put, zq10_s1, zq10_s2, zq10_s3, i64_w, i32_w]
        rfl
       refine pure_ (i := 29) (N := some 2) (v := ?_) (a' := ?_) zq10_m28 rfl rfl (any_of HT_.out (by kernel_rfl)) (fun _ _ _ h => h) (Or.inl ⟨by rfl, ?_⟩) ?_ ?_
       rotate_left
       ·intro w'
        go_simp
        with_reducible rfl
       rotate_left
       ·simp only [Act.put, zq10_s1, zq10_s2, zq10_s3, i64_w, i32_w]
        rfl
       refine done_ (done_of HT_.out (by kernel_rfl)) ?_
       try go_wp2
       go_ret
       exact ⟨by first | rfl | (simp [*] <;> rfl), by repeat (first | (with_reducible first | exact HB.out | apply below_alloc | apply pw_below_drewN | apply below_drew1 | refine below_set ?_ GE259.out | refine below_set ?_ GE269.out | refine below_set ?_ GE279.out | refine below_set ?_ GE289.out) | exact HB.out)⟩
     ·replace c56 := Bool.eq_false_iff.mpr c56
      subst c56
      have H1 : (some false) = some r := by rw [if_neg (show ¬ (false = true) by decide)] at H; exact H
      clear H
      have H := H1
      clear H1
      obtain rfl := Option.some.inj H
      have hnb145 := NB269_259.out
      have hnc145 := NB259_269.out
      have hnb146 := NB269_279.out
      have hnc146 := NB279_269.out
      have hcz147_0 : wc.cell? ⟨gb269, 0, none⟩ = some (.int .i64 t260) := (blk_cell BK269.out 0).trans rfl
      have hcz147_1 : wc.cell? ⟨gb269, 1, none⟩ = some (.int .i64 t261) := (blk_cell BK269.out 1).trans rfl
      have hcz147_2 : wc.cell? ⟨gb269, 2, none⟩ = some (.int .i64 t262) := (blk_cell BK269.out 2).trans rfl
      have hcz147_3 : wc.cell? ⟨gb269, 3, none⟩ = some (.int .i64 t263) := (blk_cell BK269.out 3).trans rfl
      have hcz147_4 : wc.cell? ⟨gb269, 4, none⟩ = some (.int .i64 t264) := (blk_cell BK269.out 4).trans rfl
      have hcz147_5 : wc.cell? ⟨gb269, 5, none⟩ = some (.int .i64 t265) := (blk_cell BK269.out 5).trans rfl
      have hcz147_6 : wc.cell? ⟨gb269, 6, none⟩ = some (.bool t266) := (blk_cell BK269.out 6).trans rfl
      have hcz147_7 : wc.cell? ⟨gb269, 7, none⟩ = some (.int .i64 t267) := (blk_cell BK269.out 7).trans rfl
      have hfz147_0 := blk_frozen BK269.out 0
      have hfz147_1 := blk_frozen BK269.out 1
      have hfz147_2 := blk_frozen BK269.out 2
      have hfz147_3 := blk_frozen BK269.out 3
      have hfz147_4 := blk_frozen BK269.out 4
      have hfz147_5 := blk_frozen BK269.out 5
      have hfz147_6 := blk_frozen BK269.out 6
      have hfz147_7 := blk_frozen BK269.out 7
      have hnb148 := NB259_279.out
      have hnc148 := NB279_259.out
      have hcz149_0 : wc.cell? ⟨gb259, 0, none⟩ = some (.int .i64 t250) := (blk_cell BK259.out 0).trans rfl
      have hcz149_1 : wc.cell? ⟨gb259, 1, none⟩ = some (.int .i64 t251) := (blk_cell BK259.out 1).trans rfl
      have hcz149_2 : wc.cell? ⟨gb259, 2, none⟩ = some (.int .i64 t252) := (blk_cell BK259.out 2).trans rfl
      have hcz149_3 : wc.cell? ⟨gb259, 3, none⟩ = some (.int .i64 t253) := (blk_cell BK259.out 3).trans rfl
      have hcz149_4 : wc.cell? ⟨gb259, 4, none⟩ = some (.int .i64 t254) := (blk_cell BK259.out 4).trans rfl
      have hcz149_5 : wc.cell? ⟨gb259, 5, none⟩ = some (.int .i64 t255) := (blk_cell BK259.out 5).trans rfl
      have hcz149_6 : wc.cell? ⟨gb259, 6, none⟩ = some (.bool t256) := (blk_cell BK259.out 6).trans rfl
      have hcz149_7 : wc.cell? ⟨gb259, 7, none⟩ = some (.int .i64 t257) := (blk_cell BK259.out 7).trans rfl
      have hfz149_0 := blk_frozen BK259.out 0
      have hfz149_1 := blk_frozen BK259.out 1
      have hfz149_2 := blk_frozen BK259.out 2
      have hfz149_3 := blk_frozen BK259.out 3
      have hfz149_4 := blk_frozen BK259.out 4
      have hfz149_5 := blk_frozen BK259.out 5
      have hfz149_6 := blk_frozen BK259.out 6
      have hfz149_7 := blk_frozen BK259.out 7
      try go_wp2_with (first | ((with_reducible refine gate_callee (f := 27) rfl ?_); refine goesL_ (some 54) rfl rfl Try.func27 (by kernel_rfl) rfl #[.agg (zq10_c t260 t261 t262 t263 t264 t265 t266 t267), .int .i64 t257] rfl (by (try simp only [List.map_toArray, List.map_cons, List.map_nil]); first | done | rfl | (simp only [List.length_drop, List.length_take]; rfl)) ?_; (with_reducible refine (impl_Shifted.calls kj6 t260 t261 t262 t263 t264 t265 t266 t267 t257 t280 t281 t282 t283 t284 t285 t286 t287 t288 _ A54.out).mono ?_); rintro e w150 ⟨rfl, hb⟩; refine ⟨_, rfl, ?_⟩; have n0_ := Aside0.mk (blk_below (g := gb259) (o := .cells (zq10_c t250 t251 t252 t253 t254 t255 t256 t257) 29 (0, 0)) (by (with_reducible repeat (first | refine blk_drewN ?_ _ | refine blk_drew ?_ | refine blk_alloc ?_ _)); exact BK259.out) hb); have n1_ := Aside0.mk (blk_below (g := gb269) (o := .cells (zq10_c t260 t261 t262 t263 t264 t265 t266 t267) 29 (0, 0)) (by (with_reducible repeat (first | refine blk_drewN ?_ _ | refine blk_drew ?_ | refine blk_alloc ?_ _)); exact BK269.out) hb); have n2_ := Aside0.mk (blk_below (g := gb279) (o := .cells (zq10_c t270 t271 t272 t273 t274 t275 t276 t277) 29 (0, 0)) (by (with_reducible repeat (first | refine blk_drewN ?_ _ | refine blk_drew ?_ | refine blk_alloc ?_ _)); exact BK279.out) hb); have n3_ := Aside0.mk (below_step (by repeat (first | (with_reducible first | exact HB.out | apply below_alloc | apply pw_below_drewN | apply below_drew1 | refine below_set ?_ GE259.out | refine below_set ?_ GE269.out | refine below_set ?_ GE279.out) | exact HB.out)) hb); clear BK259; clear BK269; clear BK279; clear HB; have BK259 := n0_; have BK269 := n1_; have BK279 := n2_; have HB := n3_; clear n0_ n1_ n2_ n3_; (try clear hb); (try clear hb2); (try clear hk); (try clear hi)) | ((with_reducible refine gate_dst (N := 9) rfl ?_); refine box_event ?hg (N := 9) ?hd (cs := #[.int .i64 0, .int .i64 0, .int .i64 0, .int .i64 0, .int .i64 0, .int .i64 0, .bool false, .int .i64 0]) (t := 29) ?hr ?_; (case hd => rfl); (case hg => rfl); (case hr => first | (go_simp; done) | (go_simp; rfl)); intro gb289 hg w151 hbox hb; have n0_ := Aside0.mk (blk_below (g := gb259) (o := .cells (zq10_c t250 t251 t252 t253 t254 t255 t256 t257) 29 (0, 0)) (by (with_reducible repeat (first | refine blk_drewN ?_ _ | refine blk_drew ?_ | refine blk_alloc ?_ _)); exact BK259.out) hb); have n1_ := Aside0.mk (blk_below (g := gb269) (o := .cells (zq10_c t260 t261 t262 t263 t264 t265 t266 t267) 29 (0, 0)) (by (with_reducible repeat (first | refine blk_drewN ?_ _ | refine blk_drew ?_ | refine blk_alloc ?_ _)); exact BK269.out) hb); have n2_ := Aside0.mk (blk_below (g := gb279) (o := .cells (zq10_c t270 t271 t272 t273 t274 t275 t276 t277) 29 (0, 0)) (by (with_reducible repeat (first | refine blk_drewN ?_ _ | refine blk_drew ?_ | refine blk_alloc ?_ _)); exact BK279.out) hb); have n3_ := Aside0.mk (below_step (by repeat (first | (with_reducible first | exact HB.out | apply below_alloc | apply pw_below_drewN | apply below_drew1 | refine below_set ?_ GE259.out | refine below_set ?_ GE269.out | refine below_set ?_ GE279.out) | exact HB.out)) hb); have n4_ := Aside0.mk (hbox); have n5_ := Aside0.mk ((by rw [hg]; exact (below_size (by repeat (first | (with_reducible first | exact HB.out | apply below_alloc | apply pw_below_drewN | apply below_drew1 | refine below_set ?_ GE259.out | refine below_set ?_ GE269.out | refine below_set ?_ GE279.out) | exact HB.out))) : w.heap.size ≤ gb289)); have n6_ := Aside0.mk ((by rw [hg]; exact (below_size (by repeat (first | (with_reducible first | exact HB.out | apply below_alloc | apply pw_below_drewN | apply below_drew1 | refine below_set ?_ GE259.out | refine below_set ?_ GE269.out | refine below_set ?_ GE279.out) | exact HB.out))) : w.heap.size ≤ gb289)); have n7_ := Aside0.mk ((by rw [hg]; exact Nat.ne_of_lt (blk_lt (g := gb259) (o := .cells (zq10_c t250 t251 t252 t253 t254 t255 t256 t257) 29 (0, 0)) (by (with_reducible repeat (first | refine blk_drewN ?_ _ | refine blk_drew ?_ | refine blk_alloc ?_ _)); exact BK259.out)) : gb259 ≠ gb289)); have n8_ := Aside0.mk ((by rw [hg]; exact Nat.ne_of_gt (blk_lt (g := gb259) (o := .cells (zq10_c t250 t251 t252 t253 t254 t255 t256 t257) 29 (0, 0)) (by (with_reducible repeat (first | refine blk_drewN ?_ _ | refine blk_drew ?_ | refine blk_alloc ?_ _)); exact BK259.out)) : gb289 ≠ gb259)); have n9_ := Aside0.mk ((by rw [hg]; exact Nat.ne_of_lt (blk_lt (g := gb269) (o := .cells (zq10_c t260 t261 t262 t263 t264 t265 t266 t267) 29 (0, 0)) (by (with_reducible repeat (first | refine blk_drewN ?_ _ | refine blk_drew ?_ | refine blk_alloc ?_ _)); exact BK269.out)) : gb269 ≠ gb289)); have n10_ := Aside0.mk ((by rw [hg]; exact Nat.ne_of_gt (blk_lt (g := gb269) (o := .cells (zq10_c t260 t261 t262 t263 t264 t265 t266 t267) 29 (0, 0)) (by (with_reducible repeat (first | refine blk_drewN ?_ _ | refine blk_drew ?_ | refine blk_alloc ?_ _)); exact BK269.out)) : gb289 ≠ gb269)); have n11_ := Aside0.mk ((by rw [hg]; exact Nat.ne_of_lt (blk_lt (g := gb279) (o := .cells (zq10_c t270 t271 t272 t273 t274 t275 t276 t277) 29 (0, 0)) (by (with_reducible repeat (first | refine blk_drewN ?_ _ | refine blk_drew ?_ | refine blk_alloc ?_ _)); exact BK279.out)) : gb279 ≠ gb289)); have n12_ := Aside0.mk ((by rw [hg]; exact Nat.ne_of_gt (blk_lt (g := gb279) (o := .cells (zq10_c t270 t271 t272 t273 t274 t275 t276 t277) 29 (0, 0)) (by (with_reducible repeat (first | refine blk_drewN ?_ _ | refine blk_drew ?_ | refine blk_alloc ?_ _)); exact BK279.out)) : gb289 ≠ gb279)); clear BK259; clear BK269; clear BK279; clear HB; have BK259 := n0_; have BK269 := n1_; have BK279 := n2_; have HB := n3_; have BK289 := n4_; have GW289 := n5_; have GE289 := n6_; have NB259_289 := n7_; have NB289_259 := n8_; have NB269_289 := n9_; have NB289_269 := n10_; have NB279_289 := n11_; have NB289_279 := n12_; clear n0_ n1_ n2_ n3_ n4_ n5_ n6_ n7_ n8_ n9_ n10_ n11_ n12_; clear hb hbox hg; have hnb152 := NB289_259.out; have hnc152 := NB259_289.out; have hnb153 := NB289_269.out; have hnc153 := NB269_289.out; have hnb154 := NB289_279.out; have hnc154 := NB279_289.out; have hcz155_0 : w151.cell? ⟨gb289, 0, none⟩ = some (.int .i64 0) := (blk_cell BK289.out 0).trans rfl; have hcz155_1 : w151.cell? ⟨gb289, 1, none⟩ = some (.int .i64 0) := (blk_cell BK289.out 1).trans rfl; have hcz155_2 : w151.cell? ⟨gb289, 2, none⟩ = some (.int .i64 0) := (blk_cell BK289.out 2).trans rfl; have hcz155_3 : w151.cell? ⟨gb289, 3, none⟩ = some (.int .i64 0) := (blk_cell BK289.out 3).trans rfl; have hcz155_4 : w151.cell? ⟨gb289, 4, none⟩ = some (.int .i64 0) := (blk_cell BK289.out 4).trans rfl; have hcz155_5 : w151.cell? ⟨gb289, 5, none⟩ = some (.int .i64 0) := (blk_cell BK289.out 5).trans rfl; have hcz155_6 : w151.cell? ⟨gb289, 6, none⟩ = some (.bool false) := (blk_cell BK289.out 6).trans rfl; have hcz155_7 : w151.cell? ⟨gb289, 7, none⟩ = some (.int .i64 0) := (blk_cell BK289.out 7).trans rfl; have hfz155_0 := blk_frozen BK289.out 0; have hfz155_1 := blk_frozen BK289.out 1; have hfz155_2 := blk_frozen BK289.out 2; have hfz155_3 := blk_frozen BK289.out 3; have hfz155_4 := blk_frozen BK289.out 4; have hfz155_5 := blk_frozen BK289.out 5; have hfz155_6 := blk_frozen BK289.out 6; have hfz155_7 := blk_frozen BK289.out 7) | ((with_reducible refine gate_store (t := 29) (p := 9) rfl ?_); refine store_event (t := 29) (p := 9) (v := ?vo_w156) (w1 := ((((((((w151.setCell ⟨gb289, 0, none⟩ (.int .i64 t280)).setCell ⟨gb289, 1, none⟩ (.int .i64 t281)).setCell ⟨gb289, 2, none⟩ (.int .i64 t282)).setCell ⟨gb289, 3, none⟩ (.int .i64 t283)).setCell ⟨gb289, 4, none⟩ (.int .i64 t284)).setCell ⟨gb289, 5, none⟩ (.int .i64 t285)).setCell ⟨gb289, 6, none⟩ (.bool t286)).setCell ⟨gb289, 7, none⟩ (.int .i64 t287))) ?hg ?ho ?hn ?hr ?_; (case ho => rfl); (case hg => rfl); (case hn => rfl); (case hr => first | (go_simp; done) | (go_simp; rfl)); intro w156 hw; have n0_ : Aside0 (w156.heap[gb259]? = some (.cells (zq10_c t250 t251 t252 t253 t254 t255 t256 t257) 29 (0, 0))) := ⟨(by rw [hw]; exact (by (with_reducible repeat (first | refine blk_drewN ?_ _ | refine blk_drew ?_ | refine blk_alloc ?_ _ | refine blk_far ?_ NB259_289.out _)); (with_reducible repeat (first | refine blk_drewN ?_ _ | refine blk_drew ?_ | refine blk_alloc ?_ _)); exact BK259.out))⟩; have n1_ : Aside0 (w156.heap[gb269]? = some (.cells (zq10_c t260 t261 t262 t263 t264 t265 t266 t267) 29 (0, 0))) := ⟨(by rw [hw]; exact (by (with_reducible repeat (first | refine blk_drewN ?_ _ | refine blk_drew ?_ | refine blk_alloc ?_ _ | refine blk_far ?_ NB269_289.out _)); (with_reducible repeat (first | refine blk_drewN ?_ _ | refine blk_drew ?_ | refine blk_alloc ?_ _)); exact BK269.out))⟩; have n2_ : Aside0 (w156.heap[gb279]? = some (.cells (zq10_c t270 t271 t272 t273 t274 t275 t276 t277) 29 (0, 0))) := ⟨(by rw [hw]; exact (by (with_reducible repeat (first | refine blk_drewN ?_ _ | refine blk_drew ?_ | refine blk_alloc ?_ _ | refine blk_far ?_ NB279_289.out _)); (with_reducible repeat (first | refine blk_drewN ?_ _ | refine blk_drew ?_ | refine blk_alloc ?_ _)); exact BK279.out))⟩; have n3_ : Aside0 (w156.heap[gb289]? = some (.cells (zq10_c t280 t281 t282 t283 t284 t285 t286 t287) 29 (0, 0))) := ⟨(by rw [hw]; exact (by (with_reducible repeat (first | refine blk_drewN ?_ _ | refine blk_drew ?_ | refine blk_alloc ?_ _)); refine zq10_put8 (cs := #[.int .i64 0, .int .i64 0, .int .i64 0, .int .i64 0, .int .i64 0, .int .i64 0, .bool false, .int .i64 0]) ?_ rfl; (with_reducible repeat (first | refine blk_drewN ?_ _ | refine blk_drew ?_ | refine blk_alloc ?_ _)); exact BK289.out))⟩; have n4_ : Aside0 (Below w.heap.size w w156) := ⟨(by rw [hw]; exact (by repeat (first | (with_reducible first | exact HB.out | apply below_alloc | apply pw_below_drewN | apply below_drew1 | refine below_set ?_ GE259.out | refine below_set ?_ GE269.out | refine below_set ?_ GE279.out | refine below_set ?_ GE289.out) | exact HB.out)))⟩; clear hw; clear BK259; clear BK269; clear BK279; clear BK289; clear HB; have BK259 := n0_; have BK269 := n1_; have BK279 := n2_; have BK289 := n3_; have HB := n4_; clear n0_ n1_ n2_ n3_ n4_))
      have n0_ := Aside0.mk (blk_drew BK259.out)
      have n1_ := Aside0.mk (blk_drew BK269.out)
      have n2_ := Aside0.mk (blk_drew BK279.out)
      have n3_ := Aside0.mk (blk_drew BK289.out)
      have n4_ := Aside0.mk (below_drew1 HB.out)
      clear BK259
      clear BK269
      clear BK279
      clear BK289
      clear HB
      have BK259 := n0_
      have BK269 := n1_
      have BK279 := n2_
      have BK289 := n3_
      have HB := n4_
      clear n0_ n1_ n2_ n3_ n4_
      refine start_ (n := 30) (S := fun w' => w'.cell? ⟨gb269, 0, none⟩ = some (.int .i64 t260) ∧ w'.cell? ⟨gb269, 1, none⟩ = some (.int .i64 t261) ∧ w'.cell? ⟨gb269, 2, none⟩ = some (.int .i64 t262) ∧ w'.cell? ⟨gb269, 3, none⟩ = some (.int .i64 t263) ∧ w'.cell? ⟨gb269, 4, none⟩ = some (.int .i64 t264) ∧ w'.cell? ⟨gb269, 5, none⟩ = some (.int .i64 t265) ∧ w'.cell? ⟨gb269, 6, none⟩ = some (.bool t266) ∧ w'.cell? ⟨gb269, 7, none⟩ = some (.int .i64 t267)) (ds := []) zq10_m0 (by kernel_rfl) rfl rfl ⟨(blk_cell BK269.out 0).trans rfl, (blk_cell BK269.out 1).trans rfl, (blk_cell BK269.out 2).trans rfl, (blk_cell BK269.out 3).trans rfl, (blk_cell BK269.out 4).trans rfl, (blk_cell BK269.out 5).trans rfl, (blk_cell BK269.out 6).trans rfl, (blk_cell BK269.out 7).trans rfl⟩ (fun hHeld => ?_); refine with_tabW laws_FnShifted.tab9 laws_FnShifted.bits9 (fun HT_ HW_ => ?_)
      generalize w156.drew = w157 at BK259 BK269 BK279 BK289 HB hHeld ⊢
      refine take_ (i := 0) (N := some 57) (v := ?_) (a' := ?_) zq10_m1 rfl rfl (take_ofW HT_.out HW_.out (by kernel_rfl)) (fun _ _ _ h => h) (Or.inl ⟨by rfl, ?_⟩) hHeld ?_ ?_
      rotate_left
      ·rintro w' ⟨s0, s1, s2, s3, s4, s5, s6, s7⟩
       go_simp
       with_reducible rfl
      rotate_left
      ·simp only [Act.put, zq10_s1, zq10_s2, zq10_s3, i64_w, i32_w]
       rfl
      refine one_ (i := 1) (N := some 58) zq10_m2 rfl rfl (one_of HT_.out (by kernel_rfl)) (by decide) (fun K hK => ?_)
      refine goes_ Try.func19 (by kernel_rfl) rfl #[.agg (zq10_c t260 t261 t262 t263 t264 t265 t266 t267)] (by rfl) rfl rfl (by (try simp only [List.map_toArray, List.map_cons, List.map_nil]); first | done | rfl | (simp only [List.length_drop, List.length_take]; rfl)) ?_
      with_reducible refine (impl_DateOk.calls t260 t261 t262 t263 t264 t265 t266 t267 false _ A55.out).mono ?_
      rintro e w158 ⟨rfl, hb⟩
      refine ⟨_, rfl, ?_⟩
      have n0_ := Aside0.mk (blk_below (g := gb259) (o := .cells (zq10_c t250 t251 t252 t253 t254 t255 t256 t257) 29 (0, 0)) (by (with_reducible repeat (first | refine blk_drewN ?_ _ | refine blk_drew ?_ | refine blk_alloc ?_ _)); exact BK259.out) hb)
      have n1_ := Aside0.mk (blk_below (g := gb269) (o := .cells (zq10_c t260 t261 t262 t263 t264 t265 t266 t267) 29 (0, 0)) (by (with_reducible repeat (first | refine blk_drewN ?_ _ | refine blk_drew ?_ | refine blk_alloc ?_ _)); exact BK269.out) hb)
      have n2_ := Aside0.mk (blk_below (g := gb279) (o := .cells (zq10_c t270 t271 t272 t273 t274 t275 t276 t277) 29 (0, 0)) (by (with_reducible repeat (first | refine blk_drewN ?_ _ | refine blk_drew ?_ | refine blk_alloc ?_ _)); exact BK279.out) hb)
      have n3_ := Aside0.mk (blk_below (g := gb289) (o := .cells (zq10_c t280 t281 t282 t283 t284 t285 t286 t287) 29 (0, 0)) (by (with_reducible repeat (first | refine blk_drewN ?_ _ | refine blk_drew ?_ | refine blk_alloc ?_ _)); exact BK289.out) hb)
      have n4_ := Aside0.mk (below_step (by repeat (first | (with_reducible first | exact HB.out | apply below_alloc | apply pw_below_drewN | apply below_drew1 | refine below_set ?_ GE259.out | refine below_set ?_ GE269.out | refine below_set ?_ GE279.out | refine below_set ?_ GE289.out) | exact HB.out)) hb)
      clear BK259
      clear BK269
      clear BK279
      clear BK289
      clear HB
      have BK259 := n0_
      have BK269 := n1_
      have BK279 := n2_
      have BK289 := n3_
      have HB := n4_
      clear n0_ n1_ n2_ n3_ n4_
      (try clear hb)
      (try clear hb2)
      (try clear hk)
      (try clear hi)
      refine hK.out _ _ ⟨(blk_cell BK269.out 0).trans rfl, (blk_cell BK269.out 1).trans rfl, (blk_cell BK269.out 2).trans rfl, (blk_cell BK269.out 3).trans rfl, (blk_cell BK269.out 4).trans rfl, (blk_cell BK269.out 5).trans rfl, (blk_cell BK269.out 6).trans rfl, (blk_cell BK269.out 7).trans rfl⟩ (fun hHeld => ?_)
      clear hK K
      refine norm_ (a' := ?_) ?_ ?_
      rotate_left
      ·show Act.put _ (some 58) _ = _
       simp only [Act.put, zq10_s1, zq10_s2, zq10_s3, i64_w, i32_w]
       rfl
      refine pure_ (i := 2) (N := some 59) (v := ?_) (a' := ?_) zq10_m3 rfl rfl (any_of HT_.out (by kernel_rfl)) (fun _ _ _ h => h) (Or.inl ⟨by rfl, ?_⟩) ?_ ?_
      rotate_left
      ·intro w'
       go_simp
       with_reducible rfl
      rotate_left
      ·simp only [Act.put, zq10_s1, zq10_s2, zq10_s3, i64_w, i32_w]
       rfl
      refine pure_ (i := 3) (N := some 60) (v := undef) (a' := ?_) zq10_m4 rfl rfl (any_of HT_.out (by kernel_rfl)) (fun _ _ _ h => h) (Or.inr ⟨by rfl, rfl⟩) ?_ ?_
      rotate_left
      ·simp only [Act.put, zq10_s1, zq10_s2, zq10_s3, i64_w, i32_w]
       rfl
      refine pure_ (i := 4) (N := some 61) (v := undef) (a' := ?_) #[true, true, true, true, true, false, false, false, false, false, false, false, false, false, false, false, false, false, false, false, false, false, false, false, false, false, false, false, false, false] rfl rfl (any_of HT_.out (by kernel_rfl)) (fun _ _ _ h => h) (Or.inr ⟨by rfl, rfl⟩) ?_ ?_
      rotate_left
      ·simp only [Act.put, zq10_s1, zq10_s2, zq10_s3, i64_w, i32_w]
       rfl
      refine pure_ (i := 5) (N := some 62) (v := undef) (a' := ?_) zq10_m5 rfl rfl (any_of HT_.out (by kernel_rfl)) (fun _ _ _ h => h) (Or.inr ⟨by rfl, rfl⟩) ?_ ?_
      rotate_left
      ·simp only [Act.put, zq10_s1, zq10_s2, zq10_s3, i64_w, i32_w]
       rfl
      refine pure_ (i := 6) (N := some 63) (v := undef) (a' := ?_) zq10_m6 rfl rfl (any_of HT_.out (by kernel_rfl)) (fun _ _ _ h => h) (Or.inr ⟨by rfl, rfl⟩) ?_ ?_
      rotate_left
      ·simp only [Act.put, zq10_s1, zq10_s2, zq10_s3, i64_w, i32_w]
       rfl
      refine pure_ (i := 7) (N := some 64) (v := ?_) (a' := ?_) zq10_m7 rfl rfl (any_of HT_.out (by kernel_rfl)) (fun _ _ _ h => h) (Or.inl ⟨by rfl, ?_⟩) ?_ ?_
      rotate_left
      ·intro w'
       go_simp
       with_reducible rfl
      rotate_left
      ·simp only [Act.put, zq10_s1, zq10_s2, zq10_s3, i64_w, i32_w]
       rfl
      refine pure_ (i := 8) (N := some 65) (v := ?_) (a' := ?_) zq10_m8 rfl rfl (any_of HT_.out (by kernel_rfl)) (fun _ _ _ h => h) (Or.inl ⟨by rfl, ?_⟩) ?_ ?_
      rotate_left
      ·intro w'
       go_simp
       with_reducible rfl
      rotate_left
      ·simp only [Act.put, zq10_s1, zq10_s2, zq10_s3, i64_w, i32_w]
       rfl
      refine pure_ (i := 9) (N := some 66) (v := undef) (a' := ?_) zq10_m9 rfl rfl (any_of HT_.out (by kernel_rfl)) (fun _ _ _ h => h) (Or.inr ⟨by rfl, rfl⟩) ?_ ?_
      rotate_left
      ·simp only [Act.put, zq10_s1, zq10_s2, zq10_s3, i64_w, i32_w]
       rfl
      refine pure_ (i := 10) (N := some 67) (v := undef) (a' := ?_) zq10_m31 rfl rfl (any_of HT_.out (by kernel_rfl)) (fun _ _ _ h => h) (Or.inr ⟨by rfl, rfl⟩) ?_ ?_
      rotate_left
      ·simp only [Act.put, zq10_s1, zq10_s2, zq10_s3, i64_w, i32_w]
       rfl
      refine pure_ (i := 11) (N := some 68) (v := undef) (a' := ?_) zq10_m10 rfl rfl (any_of HT_.out (by kernel_rfl)) (fun _ _ _ h => h) (Or.inr ⟨by rfl, rfl⟩) ?_ ?_
      rotate_left
      ·simp only [Act.put, zq10_s1, zq10_s2, zq10_s3, i64_w, i32_w]
       rfl
      refine pure_ (i := 12) (N := some 69) (v := undef) (a' := ?_) zq10_m11 rfl rfl (any_of HT_.out (by kernel_rfl)) (fun _ _ _ h => h) (Or.inr ⟨by rfl, rfl⟩) ?_ ?_
      rotate_left
      ·simp only [Act.put, zq10_s1, zq10_s2, zq10_s3, i64_w, i32_w]
       rfl
      refine pure_ (i := 13) (N := some 70) (v := undef) (a' := ?_) zq10_m12 rfl rfl (any_of HT_.out (by kernel_rfl)) (fun _ _ _ h => h) (Or.inr ⟨by rfl, rfl⟩) ?_ ?_
      rotate_left
      ·simp only [Act.put, zq10_s1, zq10_s2, zq10_s3, i64_w, i32_w]
       rfl
      refine pure_ (i := 14) (N := some 71) (v := ?_) (a' := ?_) zq10_m13 rfl rfl (any_of HT_.out (by kernel_rfl)) (fun _ _ _ h => h) (Or.inl ⟨by rfl, ?_⟩) ?_ ?_
      rotate_left
      ·intro w'
       go_simp
       with_reducible rfl
      rotate_left
      ·simp only [Act.put, zq10_s1, zq10_s2, zq10_s3, i64_w, i32_w]
       rfl
      refine pure_ (i := 15) (N := some 72) (v := ?_) (a' := ?_) zq10_m14 rfl rfl (any_of HT_.out (by kernel_rfl)) (fun _ _ _ h => h) (Or.inl ⟨by rfl, ?_⟩) ?_ ?_
      rotate_left
      ·intro w'
       go_simp
       with_reducible rfl
      rotate_left
      ·simp only [Act.put, zq10_s1, zq10_s2, zq10_s3, i64_w, i32_w]
       rfl
      refine pure_ (i := 16) (N := some 73) (v := undef) (a' := ?_) zq10_m15 rfl rfl (any_of HT_.out (by kernel_rfl)) (fun _ _ _ h => h) (Or.inr ⟨by rfl, rfl⟩) ?_ ?_
      rotate_left
      ·simp only [Act.put, zq10_s1, zq10_s2, zq10_s3, i64_w, i32_w]
       rfl
      refine pure_ (i := 17) (N := some 74) (v := undef) (a' := ?_) zq10_m16 rfl rfl (any_of HT_.out (by kernel_rfl)) (fun _ _ _ h => h) (Or.inr ⟨by rfl, rfl⟩) ?_ ?_
      rotate_left
      ·simp only [Act.put, zq10_s1, zq10_s2, zq10_s3, i64_w, i32_w]
       rfl
      refine pure_ (i := 18) (N := some 75) (v := undef) (a' := ?_) zq10_m17 rfl rfl (any_of HT_.out (by kernel_rfl)) (fun _ _ _ h => h) (Or.inr ⟨by rfl, rfl⟩) ?_ ?_
      rotate_left
      ·simp only [Act.put, zq10_s1, zq10_s2, zq10_s3, i64_w, i32_w]
       rfl
      refine pure_ (i := 19) (N := some 76) (v := undef) (a' := ?_) zq10_m18 rfl rfl (any_of HT_.out (by kernel_rfl)) (fun _ _ _ h => h) (Or.inr ⟨by rfl, rfl⟩) ?_ ?_
      rotate_left
      ·simp only [Act.put, zq10_s1, zq10_s2, zq10_s3, i64_w, i32_w]
       rfl
      refine pure_ (i := 20) (N := some 77) (v := ?_) (a' := ?_) zq10_m19 rfl rfl (any_of HT_.out (by kernel_rfl)) (fun _ _ _ h => h) (Or.inl ⟨by rfl, ?_⟩) ?_ ?_
      rotate_left
      ·intro w'
       go_simp
       with_reducible rfl
      rotate_left
      ·simp only [Act.put, zq10_s1, zq10_s2, zq10_s3, i64_w, i32_w]
       rfl
      refine pure_ (i := 21) (N := some 78) (v := ?_) (a' := ?_) zq10_m20 rfl rfl (any_of HT_.out (by kernel_rfl)) (fun _ _ _ h => h) (Or.inl ⟨by rfl, ?_⟩) ?_ ?_
      rotate_left
      ·intro w'
       go_simp
       with_reducible rfl
      rotate_left
      ·simp only [Act.put, zq10_s1, zq10_s2, zq10_s3, i64_w, i32_w]
       rfl
      refine pure_ (i := 22) (N := some 79) (v := undef) (a' := ?_) zq10_m21 rfl rfl (any_of HT_.out (by kernel_rfl)) (fun _ _ _ h => h) (Or.inr ⟨by rfl, rfl⟩) ?_ ?_
      rotate_left
      ·simp only [Act.put, zq10_s1, zq10_s2, zq10_s3, i64_w, i32_w]
       rfl
      refine pure_ (i := 23) (N := some 80) (v := ?_) (a' := ?_) zq10_m22 rfl rfl (any_of HT_.out (by kernel_rfl)) (fun _ _ _ h => h) (Or.inl ⟨by rfl, ?_⟩) ?_ ?_
      rotate_left
      ·intro w'
       go_simp
       with_reducible rfl
      rotate_left
      ·simp only [Act.put, zq10_s1, zq10_s2, zq10_s3, i64_w, i32_w]
       rfl
      refine pure_ (i := 24) (N := some 81) (v := ?_) (a' := ?_) zq10_m23 rfl rfl (any_of HT_.out (by kernel_rfl)) (fun _ _ _ h => h) (Or.inl ⟨by rfl, ?_⟩) ?_ ?_
      rotate_left
      ·intro w'
       go_simp
       with_reducible rfl
      rotate_left
      ·simp only [Act.put, zq10_s1, zq10_s2, zq10_s3, i64_w, i32_w]
       rfl
      refine pure_ (i := 25) (N := some 82) (v := undef) (a' := ?_) zq10_m24 rfl rfl (any_of HT_.out (by kernel_rfl)) (fun _ _ _ h => h) (Or.inr ⟨by rfl, rfl⟩) ?_ ?_
      rotate_left
      ·simp only [Act.put, zq10_s1, zq10_s2, zq10_s3, i64_w, i32_w]
       rfl
      refine pure_ (i := 26) (N := some 83) (v := undef) (a' := ?_) zq10_m25 rfl rfl (any_of HT_.out (by kernel_rfl)) (fun _ _ _ h => h) (Or.inr ⟨by rfl, rfl⟩) ?_ ?_
      rotate_left
      ·simp only [Act.put, zq10_s1, zq10_s2, zq10_s3, i64_w, i32_w]
       rfl
      refine pure_ (i := 27) (N := some 84) (v := undef) (a' := ?_) zq10_m26 rfl rfl (any_of HT_.out (by kernel_rfl)) (fun _ _ _ h => h) (Or.inr ⟨by rfl, rfl⟩) ?_ ?_
      rotate_left
      ·simp only [Act.put, zq10_s1, zq10_s2, zq10_s3, i64_w, i32_w]
       rfl
      refine pure_ (i := 28) (N := some 85) (v := ?_) (a' := ?_) zq10_m27 rfl rfl (any_of HT_.out (by kernel_rfl)) (fun _ _ _ h => h) (Or.inl ⟨by rfl, ?_⟩) ?_ ?_
      rotate_left
      ·intro w'
       go_simp
       with_reducible rfl
      rotate_left
      ·simp only [Act.put, zq10_s1, zq10_s2, zq10_s3, i64_w, i32_w]
       rfl
      refine pure_ (i := 29) (N := some 2) (v := ?_) (a' := ?_) zq10_m28 rfl rfl (any_of HT_.out (by kernel_rfl)) (fun _ _ _ h => h) (Or.inl ⟨by rfl, ?_⟩) ?_ ?_
      rotate_left
      ·intro w'
       go_simp
       with_reducible rfl
      rotate_left
      ·simp only [Act.put, zq10_s1, zq10_s2, zq10_s3, i64_w, i32_w]
       rfl
      refine done_ (done_of HT_.out (by kernel_rfl)) ?_
      try go_wp2
      go_ret
      exact ⟨by first | rfl | (simp [*] <;> rfl), by repeat (first | (with_reducible first | exact HB.out | apply below_alloc | apply pw_below_drewN | apply below_drew1 | refine below_set ?_ GE259.out | refine below_set ?_ GE269.out | refine below_set ?_ GE279.out | refine below_set ?_ GE289.out) | exact HB.out)⟩

/-- THE ONE PURE STATEMENT of laws_FnShifted: yours. -/
def laws_FnShifted.Pure : Prop := ∀ (l0 : List Int), l0.length ≤ maxLen → l0.length * 1 ≤ 140737488351232 → (∀ x ∈ l0, (Lit.int .u8 x).wf = true) → ∃ k, laws_FnShifted.f k l0 = some true
theorem laws_FnShifted.walk (P : laws_FnShifted.Pure) (a0 : Option Addr) (len0 cap0 : Nat) (z0 : List Int) (w : World) (w0 : (a0 = none ∧ len0 = 0 ∧ cap0 = 0 ∧ z0 = []) ∨ ∃ x, a0 = some x ∧ len0 ≤ cap0 ∧ cap0 ≤ maxLen ∧ z0.length = cap0 ∧ (∀ i, i < z0.length → w.cell? (x.add i) = some (.int .u8 (z0.getD i 0))) ∧ ∀ n ∈ z0, (Lit.int .u8 n).wf = true) (y0 : len0 * 1 ≤ 140737488351232) :
  Calls Try.prog 12 #[.slice a0 len0 cap0] w fun e w' => e = .returned (.bool true) ∧ Below w.heap.size w w' := by
 obtain ⟨l0, rfl, hr0, hm0, hw0, hc0⟩ := ReadsInt.ofRowC w0
 obtain ⟨k, h⟩ := P l0 hm0 y0 hw0
 refine (laws_FnShifted.calls k _ _ l0 true w (Kd.C_of_reads (d := (0 : Int)) (h1 := fun _ => rfl) hr0) hc0 h).mono ?_
 rintro e w' ⟨rfl, hd⟩
 exact ⟨rfl, hd⟩

end Go.Proofs.Ytdfopjmokbcnlaa.PF
