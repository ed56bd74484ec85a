-- Printed by this session's pdrive.py over the kit's printer.
import Derived.Test.YtbhklkpjjpkblaaDoorHShort
import Derived.Test.YtbhklkpjjpkblaaDoorPJx0
import Derived.Test.YtbhklkpjjpkblaaDoorPJx13
import Derived.Test.YtbhklkpjjpkblaaDoorPJx17
namespace Go.Proofs.YtbhklkpjjpkblaaDoor.PJ
open Go.RowKit Go.Proofs.YtbhklkpjjpkblaaDoorW.PrintWords Go.Proofs.YtbhklkpjjpkblaaDoorW.PrintLast Go.Proofs.YtbhklkpjjpkblaaDoorW.PrintMore Go.Proofs.YtbhklkpjjpkblaaDoorW.WordsB Go.Proofs.YtbhklkpjjpkblaaDoorW.GlM Go.Proofs.YtbhklkpjjpkblaaDoorW.Short
attribute [local go_sem] max2_int min2_int max_two min_two max_three min_three max_four min_four   -- for this text's walks alone
set_option linter.unusedVariables false
set_option linter.unusedSimpArgs false

/-! ### impl_attrNames: function 68 -/
def impl_attrNames.l0 : Nat → List (S74) → Int → List (S92) → List (S76) → Int → Int → Option ((List (S92)) × Bool)
 | 0, _, _, _, _, _, _ => none
 | k + 1, x0, x1, x6, x20, x21, x22 => if x22 < x21 then (if 0 ≤ x22 then (if x22 < (x20.length : Int) then ((impl_isBinding.f k ((rd_T76 x20 x22).f0)).bind fun t305 => (if t305 = true then (impl_attrNames.l0 k x0 x1 x6 x20 x21 (wrap64 (x22 + 1))) else ((impl_Split.f k ((rd_T76 x20 x22).f0)).bind fun bt306 => (if bt306.1.toList = ([] : List UInt8) then ((impl_QName_91.f k x6 (⟨#[]⟩ : ByteArray) bt306.2.1).bind fun t310 => (if t310 = true then (some (([] : List (S92)), false)) else (if x6.length < 4398046511104 then (impl_attrNames.l0 k x0 x1 (x6 ++ [(⟨(⟨#[]⟩ : ByteArray), bt306.2.1⟩ : S92)]) x20 x21 (wrap64 (x22 + 1))) else (none)))) else ((impl_bound.f k x0 x1 bt306.1).bind fun bt314 => (if bt314.2 = true then ((impl_QName_91.f k x6 bt314.1 bt306.2.1).bind fun t316 => (if t316 = true then (some (([] : List (S92)), false)) else (if x6.length < 4398046511104 then (impl_attrNames.l0 k x0 x1 (x6 ++ [(⟨bt314.1, bt306.2.1⟩ : S92)]) x20 x21 (wrap64 (x22 + 1))) else (none)))) else (some (([] : List (S92)), false)))))))) else (none)) else (none)) else (some (x6, true))
def impl_attrNames.f (k : Nat) (l0 : List (S74)) (a1 : Int) : Option ((List (S92)) × Bool) := if 0 ≤ a1 then (if a1 < (l0.length : Int) then (impl_attrNames.l0 k l0 a1 (([] : List (S92))) ((rd_T74 l0 a1).f3) (((rd_T74 l0 a1).f3).length : Int) 0) else (none)) else (none)
set_option maxHeartbeats 8000000 in
set_option maxRecDepth 100000 in
theorem impl_attrNames.calls (k : Nat) (A0 : Option Addr) (c0 : Nat) (l0 : List (S74)) (a1 : Int) (r1 : List (S92)) (r2 : Bool) (w : World) (hr0 : Kd.C k74 w A0 l0.length l0) (hc0 : l0.length ≤ c0) (h : impl_attrNames.f k l0 a1 = some (r1, r2)) :
  Calls Tryd.prog 68 #[.slice A0 l0.length c0, .int .i64 a1] w fun e w' => ∃ v0_ : Value, e = .returned (.tuple #[v0_, .bool r2]) ∧ Kd.R k92 92 w' w.heap.size (fun _ => True) v0_ r1 ∧ Below w.heap.size w w' := by
 have hu76 := Tryd.underlying76
 have hu92 := Tryd.underlying92
 have HR0 := Aside0.mk hr0
 have HC0 := Aside0.mk hc0
 clear hr0 hc0
 have HB := Aside0.mk (Below.refl w.heap.size w)
 have H : (if 0 ≤ a1 then (if a1 < (l0.length : Int) then (impl_attrNames.l0 k l0 a1 (([] : List (S92))) ((rd_T74 l0 a1).f3) (((rd_T74 l0 a1).f3).length : Int) 0) else (none)) else (none)) = some (r1, r2) := h
 clear h
 obtain ⟨y299, hy299⟩ : ∃ y_ : List (S92), y_ = (([] : List (S92))) := ⟨_, rfl⟩
 replace H : (if 0 ≤ a1 then (if a1 < (l0.length : Int) then (impl_attrNames.l0 k l0 a1 y299 ((rd_T74 l0 a1).f3) (((rd_T74 l0 a1).f3).length : Int) 0) else (none)) else (none)) = some (r1, r2) := by first | (rw [hy299]; with_reducible exact H) | (have H2_ := (Option.bind_some _ _).symm.trans H; rw [hy299]; with_reducible exact H2_) | (have H2_ := (Option.bind_some _ _).symm.trans H; with_reducible exact H2_) | with_reducible exact H | (rw [hy299]; exact H) | exact H
 have Ny299 := Aside0.mk hy299
 clear hy299
 by_cases c3 : 0 ≤ a1
 ·rw [if_pos c3] at H
  have c3b0 : decide (0 ≤ a1) = true := decide_eq_true c3
  clear c3
  by_cases c4 : a1 < (l0.length : Int)
  ·rw [if_pos c4] at H
   have c4b0 : decide (a1 < (l0.length : Int)) = true := decide_eq_true c4
   clear c4
   have H' := Aside0.mk H
   clear H
   go_enter Tryd.func68, Tryd.ntmps68
   go_wp2_with (first | ((with_reducible refine gate_dst (N := 15) rfl ?_); refine Kd.R_lit k92 _ 92 ?hg (N := 15) ?hd (xs := ([] : List (S92))) (inner := []) (ok := fun _ => True) (okp := fun _ => True) ?hr ?hp (fun _ hk => hk) trivial (Below.refl _ _) (Nat.le_refl _) (by simp) ?_; (case hd => rfl); (case hg => rfl); (case hr => first | (go_simp; done) | (go_simp; rfl)); (case hp => exact (Reps.none _ _)); intro v300 w5 ho6 hb hg_ hnew_; clear hg_ hnew_; (first | rw [← Ny299.out] at ho6 | (simp only [Int.reduceToNat] at ho6; rw [← Ny299.out] at ho6)); have n0_ := Aside0.mk (Kd.R_lower ho6 (below_size aB)); have n1_ := Aside0.mk (below_step aB hb); clear HB; have HO301 := n0_; have HB := n1_; clear n0_ n1_; clear hb ho6; have p302 : 0 ≤ (a1 : Int) := aD; have q302 : a1 < (l0.length : Int) := aD; obtain ⟨ad302, A302_3, c302_3, e302, hx302_0, hx302_1, hx302_2, hx302_3, hl302_3, hi302_3⟩ := at_T74 HR0.out a1 p302 q302; cases e302; replace hx302_0 := (HB.out.cell (World.block_lt_of_cell? w _ hx302_0)).trans hx302_0; replace hx302_1 := (HB.out.cell (World.block_lt_of_cell? w _ hx302_1)).trans hx302_1; replace hx302_2 := (HB.out.cell (World.block_lt_of_cell? w _ hx302_2)).trans hx302_2; replace hx302_3 := (HB.out.cell (World.block_lt_of_cell? w _ hx302_3)).trans hx302_3; have HR302_3 := Aside0.mk hi302_3; have HC302_3 := Aside0.mk hl302_3; clear hi302_3 hl302_3; replace p302 := eq_true p302; replace q302 := eq_true q302))
   go_loopg [6, 22] k (fun kq v6 v22 w' => ∃ (x6_1 : List (S92)) (x22_1 : Int), v22 = .int .i64 x22_1 ∧ Aside0 (impl_attrNames.l0 kq l0 a1 x6_1 ((rd_T74 l0 a1).f3) (((rd_T74 l0 a1).f3).length : Int) x22_1 = some (r1, r2)) ∧ Aside0 (kq ≤ k) ∧ Aside0 (Kd.R k92 92 w' w.heap.size (fun _ => True) v6 x6_1) ∧ Aside0 (Below w.heap.size w w'))
   case atStart => exact ⟨(y299), (0), aR, H', ⟨Nat.le_refl _⟩, ⟨aP HO301.out⟩, ⟨aB⟩⟩
   case round =>
    clear H'
    try clear p2
    try clear c3
    try clear c3b0
    try clear p3
    try clear q3
    try clear hx3
    try clear c4
    try clear c4b0
    try clear c6
    try clear hx302_0
    try clear hx302_1
    try clear hx302_2
    try clear hx302_3
    try clear p302
    try clear q302
    obtain ⟨x6_1, x22_1, rfl, HA, HK1, HO_6, HB⟩ := hrel
    cases gk with
    | zero => exact absurd HA.out (by simp [impl_attrNames.l0])
    | succ k1 =>
     have H := HA.out
     clear HA
     simp only [impl_attrNames.l0] at H
     by_cases c7 : x22_1 < (((rd_T74 l0 a1).f3).length : Int)
     ·rw [if_pos c7] at H
      have c7b0 : decide (x22_1 < (((rd_T74 l0 a1).f3).length : Int)) = true := decide_eq_true c7
      clear c7
      by_cases c8 : 0 ≤ x22_1
      ·rw [if_pos c8] at H
       have c8b0 : decide (0 ≤ x22_1) = true := decide_eq_true c8
       clear c8
       by_cases c9 : x22_1 < (((rd_T74 l0 a1).f3).length : Int)
       ·rw [if_pos c9] at H
        have c9b0 : decide (x22_1 < (((rd_T74 l0 a1).f3).length : Int)) = true := decide_eq_true c9
        clear c9
        replace H := Option.bind_eq_some_iff.mp H
        obtain ⟨t305, A100, H⟩ := H
        replace H : (if t305 = true then (impl_attrNames.l0 k1 l0 a1 x6_1 ((rd_T74 l0 a1).f3) (((rd_T74 l0 a1).f3).length : Int) (wrap64 (x22_1 + 1))) else ((impl_Split.f k1 ((rd_T76 ((rd_T74 l0 a1).f3) x22_1).f0)).bind fun bt306 => (if bt306.1.toList = ([] : List UInt8) then ((impl_QName_91.f k1 x6_1 (⟨#[]⟩ : ByteArray) bt306.2.1).bind fun t310 => (if t310 = true then (some (([] : List (S92)), false)) else (if x6_1.length < 4398046511104 then (impl_attrNames.l0 k1 l0 a1 (x6_1 ++ [(⟨(⟨#[]⟩ : ByteArray), bt306.2.1⟩ : S92)]) ((rd_T74 l0 a1).f3) (((rd_T74 l0 a1).f3).length : Int) (wrap64 (x22_1 + 1))) else (none)))) else ((impl_bound.f k1 l0 a1 bt306.1).bind fun bt314 => (if bt314.2 = true then ((impl_QName_91.f k1 x6_1 bt314.1 bt306.2.1).bind fun t316 => (if t316 = true then (some (([] : List (S92)), false)) else (if x6_1.length < 4398046511104 then (impl_attrNames.l0 k1 l0 a1 (x6_1 ++ [(⟨bt314.1, bt306.2.1⟩ : S92)]) ((rd_T74 l0 a1).f3) (((rd_T74 l0 a1).f3).length : Int) (wrap64 (x22_1 + 1))) else (none)))) else (some (([] : List (S92)), false))))))) = some (r1, r2) := H
        have A10 := Aside0.mk A100
        clear A100
        by_cases c11 : t305 = true
        ·subst c11
         have H1 : (impl_attrNames.l0 k1 l0 a1 x6_1 ((rd_T74 l0 a1).f3) (((rd_T74 l0 a1).f3).length : Int) (wrap64 (x22_1 + 1))) = some (r1, r2) := by rw [if_pos rfl] at H; exact H
         clear H
         have H := H1
         clear H1
         have H' := Aside0.mk H
         clear H
         have p303 : 0 ≤ (x22_1 : Int) := aD
         have q303 : x22_1 < (((rd_T74 l0 a1).f3).length : Int) := aD
         obtain ⟨ad303, e303, hx303_0, hx303_1⟩ := at_T76 HR302_3.out x22_1 p303 q303
         cases e303
         replace hx303_0 := (HB.out.cell (World.block_lt_of_cell? w _ hx303_0)).trans hx303_0
         replace hx303_1 := (HB.out.cell (World.block_lt_of_cell? w _ hx303_1)).trans hx303_1
         replace p303 := eq_true p303
         replace q303 := eq_true q303
         go_wp2_with (first | ((with_reducible refine gate_dst (N := 8) rfl ?_); refine box_event ?hg (N := 8) ?hd (cs := #[.string (⟨#[]⟩ : ByteArray), .string (⟨#[]⟩ : ByteArray)]) (t := 76) ?hr ?_; (case hd => rfl); (case hg => rfl); (case hr => first | (go_simp; done) | (go_simp; rfl)); intro gb304 hg w12 hbox hb; have n0_ := Aside0.mk (Kd.R_below (aP HO_6.out) hb); have n1_ := Aside0.mk (below_step aB hb); have n2_ := Aside0.mk (hbox); have n3_ := Aside0.mk ((by rw [hg]; exact (below_size aB) : w.heap.size ≤ gb304)); have n4_ := Aside0.mk ((by rw [hg]; exact (below_size aB) : w.heap.size ≤ gb304)); clear HO_6; clear HB; have HO_6 := n0_; have HB := n1_; have BK304 := n2_; have GW304 := n3_; have GE304 := n4_; clear n0_ n1_ n2_ n3_ n4_; clear hb hbox hg; have hcz13_0 : w12.cell? ⟨gb304, 0, none⟩ = some (.string (⟨#[]⟩ : ByteArray)) := (blk_cell BK304.out 0).trans rfl; have hcz13_1 : w12.cell? ⟨gb304, 1, none⟩ = some (.string (⟨#[]⟩ : ByteArray)) := (blk_cell BK304.out 1).trans rfl; have hfz13_0 := blk_frozen BK304.out 0; have hfz13_1 := blk_frozen BK304.out 1) | ((with_reducible refine gate_callee (f := 90) rfl ?_); refine goesL_ (some 28) rfl rfl Tryd.func90 (by kernel_rfl) rfl #[.string ((rd_T76 ((rd_T74 l0 a1).f3) x22_1).f0)] rfl aG ?_; (with_reducible refine (impl_isBinding.calls k1 ((rd_T76 ((rd_T74 l0 a1).f3) x22_1).f0) true _ A10.out).mono ?_); rintro e w' ⟨rfl, ⟨nd, rfl⟩⟩; refine ⟨_, rfl, ?_⟩))
         go_roundg k1
         case measure => have := HK1.out; omega
         case rel => exact ⟨(x6_1), (wrap64 (x22_1 + 1)), aR, H', ⟨by have := HK1.out; omega⟩, ⟨by (with_reducible repeat (first | apply Kd.R_alloc | apply Kd.R_drewN | apply Kd.R_drew)); exact Kd.R_mono (Kd.R_far (p := ⟨gb304, 1, none⟩) (Kd.R_far (p := ⟨gb304, 0, none⟩) (Kd.R_types HO_6.out BK304.out (by decide)) (fun _ hk => hk.2) (.string ((rd_T76 ((rd_T74 l0 a1).f3) x22_1).f0))) (fun _ hk => hk.2) (.string ((rd_T76 ((rd_T74 l0 a1).f3) x22_1).f1))) (fun _ hk => trivial)⟩, ⟨aE⟩⟩
        ·replace c11 := Bool.eq_false_iff.mpr c11
         subst c11
         have H1 : ((impl_Split.f k1 ((rd_T76 ((rd_T74 l0 a1).f3) x22_1).f0)).bind fun bt306 => (if bt306.1.toList = ([] : List UInt8) then ((impl_QName_91.f k1 x6_1 (⟨#[]⟩ : ByteArray) bt306.2.1).bind fun t310 => (if t310 = true then (some (([] : List (S92)), false)) else (if x6_1.length < 4398046511104 then (impl_attrNames.l0 k1 l0 a1 (x6_1 ++ [(⟨(⟨#[]⟩ : ByteArray), bt306.2.1⟩ : S92)]) ((rd_T74 l0 a1).f3) (((rd_T74 l0 a1).f3).length : Int) (wrap64 (x22_1 + 1))) else (none)))) else ((impl_bound.f k1 l0 a1 bt306.1).bind fun bt314 => (if bt314.2 = true then ((impl_QName_91.f k1 x6_1 bt314.1 bt306.2.1).bind fun t316 => (if t316 = true then (some (([] : List (S92)), false)) else (if x6_1.length < 4398046511104 then (impl_attrNames.l0 k1 l0 a1 (x6_1 ++ [(⟨bt314.1, bt306.2.1⟩ : S92)]) ((rd_T74 l0 a1).f3) (((rd_T74 l0 a1).f3).length : Int) (wrap64 (x22_1 + 1))) else (none)))) else (some (([] : List (S92)), false)))))) = some (r1, r2) := by rw [if_neg (show ¬ (false = true) by decide)] at H; exact H
         clear H
         have H := H1
         clear H1
         replace H := Option.bind_eq_some_iff.mp H
         obtain ⟨⟨t306, t307, t308⟩, A140, H⟩ := H
         replace H : (if t306.toList = ([] : List UInt8) then ((impl_QName_91.f k1 x6_1 (⟨#[]⟩ : ByteArray) t307).bind fun t310 => (if t310 = true then (some (([] : List (S92)), false)) else (if x6_1.length < 4398046511104 then (impl_attrNames.l0 k1 l0 a1 (x6_1 ++ [(⟨(⟨#[]⟩ : ByteArray), t307⟩ : S92)]) ((rd_T74 l0 a1).f3) (((rd_T74 l0 a1).f3).length : Int) (wrap64 (x22_1 + 1))) else (none)))) else ((impl_bound.f k1 l0 a1 t306).bind fun bt314 => (if bt314.2 = true then ((impl_QName_91.f k1 x6_1 bt314.1 t307).bind fun t316 => (if t316 = true then (some (([] : List (S92)), false)) else (if x6_1.length < 4398046511104 then (impl_attrNames.l0 k1 l0 a1 (x6_1 ++ [(⟨bt314.1, t307⟩ : S92)]) ((rd_T74 l0 a1).f3) (((rd_T74 l0 a1).f3).length : Int) (wrap64 (x22_1 + 1))) else (none)))) else (some (([] : List (S92)), false))))) = some (r1, r2) := H
         have A14 := Aside0.mk A140
         clear A140
         by_cases c15 : t306.toList = ([] : List UInt8)
         ·rw [if_pos c15] at H
          have c15b0 : (t306.toList == ([] : List UInt8)) = true := beq_iff_eq.mpr c15
          have c15b1 : (t306.toList != ([] : List UInt8)) = false := bne_eq_false_iff_eq.mpr c15
          have c15b2 : (t306).toList.isEmpty = true := by (first | exact (List.isEmpty_iff.mpr (eq_of_beq c15b0)) | exact (Bool.eq_false_iff.mpr (fun h_ => by rw [List.isEmpty_iff.mp h_] at c15b0; cases c15b0)))
          clear c15
          replace H := Option.bind_eq_some_iff.mp H
          obtain ⟨t310, A160, H⟩ := H
          replace H : (if t310 = true then (some (([] : List (S92)), false)) else (if x6_1.length < 4398046511104 then (impl_attrNames.l0 k1 l0 a1 (x6_1 ++ [(⟨(⟨#[]⟩ : ByteArray), t307⟩ : S92)]) ((rd_T74 l0 a1).f3) (((rd_T74 l0 a1).f3).length : Int) (wrap64 (x22_1 + 1))) else (none))) = some (r1, r2) := H
          have A16 := Aside0.mk A160
          clear A160
          by_cases c17 : t310 = true
          ·subst c17
           have H1 : (some (([] : List (S92)), false)) = some (r1, r2) := by rw [if_pos rfl] at H; exact H
           clear H
           have H := H1
           clear H1
           simp only [Option.some.injEq, Prod.mk.injEq] at H
           obtain ⟨rfl, rfl⟩ := H
           have p303 : 0 ≤ (x22_1 : Int) := aD
           have q303 : x22_1 < (((rd_T74 l0 a1).f3).length : Int) := aD
           obtain ⟨ad303, e303, hx303_0, hx303_1⟩ := at_T76 HR302_3.out x22_1 p303 q303
           cases e303
           replace hx303_0 := (HB.out.cell (World.block_lt_of_cell? w _ hx303_0)).trans hx303_0
           replace hx303_1 := (HB.out.cell (World.block_lt_of_cell? w _ hx303_1)).trans hx303_1
           replace p303 := eq_true p303
           replace q303 := eq_true q303
           go_wp2_with (first | ((with_reducible refine gate_dst (N := 8) rfl ?_); refine box_event ?hg (N := 8) ?hd (cs := #[.string (⟨#[]⟩ : ByteArray), .string (⟨#[]⟩ : ByteArray)]) (t := 76) ?hr ?_; (case hd => rfl); (case hg => rfl); (case hr => first | (go_simp; done) | (go_simp; rfl)); intro gb304 hg w18 hbox hb; have n0_ := Aside0.mk (Kd.R_below (aP HO_6.out) hb); have n1_ := Aside0.mk (below_step aB hb); have n2_ := Aside0.mk (hbox); have n3_ := Aside0.mk ((by rw [hg]; exact (below_size aB) : w.heap.size ≤ gb304)); have n4_ := Aside0.mk ((by rw [hg]; exact (below_size aB) : w.heap.size ≤ gb304)); clear HO_6; clear HB; have HO_6 := n0_; have HB := n1_; have BK304 := n2_; have GW304 := n3_; have GE304 := n4_; clear n0_ n1_ n2_ n3_ n4_; clear hb hbox hg; have hcz19_0 : w18.cell? ⟨gb304, 0, none⟩ = some (.string (⟨#[]⟩ : ByteArray)) := (blk_cell BK304.out 0).trans rfl; have hcz19_1 : w18.cell? ⟨gb304, 1, none⟩ = some (.string (⟨#[]⟩ : ByteArray)) := (blk_cell BK304.out 1).trans rfl; have hfz19_0 := blk_frozen BK304.out 0; have hfz19_1 := blk_frozen BK304.out 1) | ((with_reducible refine gate_callee (f := 90) rfl ?_); refine goesL_ (some 28) rfl rfl Tryd.func90 (by kernel_rfl) rfl #[.string ((rd_T76 ((rd_T74 l0 a1).f3) x22_1).f0)] rfl aG ?_; (with_reducible refine (impl_isBinding.calls k1 ((rd_T76 ((rd_T74 l0 a1).f3) x22_1).f0) false _ A10.out).mono ?_); rintro e w' ⟨rfl, ⟨nd, rfl⟩⟩; refine ⟨_, rfl, ?_⟩) | ((with_reducible refine gate_callee (f := 71) rfl ?_); refine goesL_ (some 32) rfl rfl Tryd.func71 (by kernel_rfl) rfl #[.string ((rd_T76 ((rd_T74 l0 a1).f3) x22_1).f0)] rfl aG ?_; (with_reducible refine (impl_Split.calls k1 ((rd_T76 ((rd_T74 l0 a1).f3) x22_1).f0) t306 t307 t308 _ A14.out).mono ?_); rintro e w' ⟨rfl, ⟨nd, rfl⟩⟩; refine ⟨_, rfl, ?_⟩) | ((with_reducible refine gate_dst (N := 12) rfl ?_); refine box_event ?hg (N := 12) ?hd (cs := #[.string (⟨#[]⟩ : ByteArray), .string (⟨#[]⟩ : ByteArray)]) (t := 92) ?hr ?_; (case hd => rfl); (case hg => rfl); (case hr => first | (go_simp; done) | (go_simp; rfl)); intro gb309 hg w20 hbox hb; have n0_ := Aside0.mk (Kd.R_below (Kd.R_elderB (by (with_reducible repeat (first | apply Kd.R_alloc | apply Kd.R_drewN | apply Kd.R_drew)); exact (Kd.R_mono (Kd.R_far (p := ⟨gb304, 1, none⟩) (Kd.R_far (p := ⟨gb304, 0, none⟩) (Kd.R_types HO_6.out BK304.out (by decide)) (fun _ hk => hk.2) (.string ((rd_T76 ((rd_T74 l0 a1).f3) x22_1).f0))) (fun _ hk => hk.2) (.string ((rd_T76 ((rd_T74 l0 a1).f3) x22_1).f1))) (fun _ h_ => h_.1))) gb309 (Nat.le_of_eq hg.symm)) hb); have n1_ := Aside0.mk (blk_below (g := gb304) (o := .cells #[.string ((rd_T76 ((rd_T74 l0 a1).f3) x22_1).f0), .string ((rd_T76 ((rd_T74 l0 a1).f3) x22_1).f1)] 76 (0, 0)) (by (with_reducible repeat (first | apply d1 | apply d2 | apply d3)); refine blk_put (cs := #[.string ((rd_T76 ((rd_T74 l0 a1).f3) x22_1).f0), .string (⟨#[]⟩ : ByteArray)]) ?_ 1 _ rfl; (with_reducible repeat (first | apply d1 | apply d2 | apply d3)); refine blk_put (cs := #[.string (⟨#[]⟩ : ByteArray), .string (⟨#[]⟩ : ByteArray)]) ?_ 0 _ rfl; (with_reducible repeat (first | apply d1 | apply d2 | apply d3)); exact BK304.out) hb); have n2_ := Aside0.mk (below_step aE hb); have n3_ := Aside0.mk (hbox); have n4_ := Aside0.mk ((by rw [hg]; exact (below_size aE) : w.heap.size ≤ gb309)); have n5_ := Aside0.mk ((by rw [hg]; exact (below_size aE) : w.heap.size ≤ gb309)); have n6_ := Aside0.mk ((by rw [hg]; exact Nat.ne_of_lt (blk_lt (g := gb304) (o := .cells #[.string ((rd_T76 ((rd_T74 l0 a1).f3) x22_1).f0), .string ((rd_T76 ((rd_T74 l0 a1).f3) x22_1).f1)] 76 (0, 0)) (by (with_reducible repeat (first | apply d1 | apply d2 | apply d3)); refine blk_put (cs := #[.string ((rd_T76 ((rd_T74 l0 a1).f3) x22_1).f0), .string (⟨#[]⟩ : ByteArray)]) ?_ 1 _ rfl; (with_reducible repeat (first | apply d1 | apply d2 | apply d3)); refine blk_put (cs := #[.string (⟨#[]⟩ : ByteArray), .string (⟨#[]⟩ : ByteArray)]) ?_ 0 _ rfl; (with_reducible repeat (first | apply d1 | apply d2 | apply d3)); exact BK304.out)) : gb304 ≠ gb309)); have n7_ := Aside0.mk ((by rw [hg]; exact Nat.ne_of_gt (blk_lt (g := gb304) (o := .cells #[.string ((rd_T76 ((rd_T74 l0 a1).f3) x22_1).f0), .string ((rd_T76 ((rd_T74 l0 a1).f3) x22_1).f1)] 76 (0, 0)) (by (with_reducible repeat (first | apply d1 | apply d2 | apply d3)); refine blk_put (cs := #[.string ((rd_T76 ((rd_T74 l0 a1).f3) x22_1).f0), .string (⟨#[]⟩ : ByteArray)]) ?_ 1 _ rfl; (with_reducible repeat (first | apply d1 | apply d2 | apply d3)); refine blk_put (cs := #[.string (⟨#[]⟩ : ByteArray), .string (⟨#[]⟩ : ByteArray)]) ?_ 0 _ rfl; (with_reducible repeat (first | apply d1 | apply d2 | apply d3)); exact BK304.out)) : gb309 ≠ gb304)); clear HO_6; clear BK304; clear HB; have HO_6 := n0_; have BK304 := n1_; have HB := n2_; have BK309 := n3_; have GW309 := n4_; have GE309 := n5_; have NB304_309 := n6_; have NB309_304 := n7_; clear n0_ n1_ n2_ n3_ n4_ n5_ n6_ n7_; clear hb hbox hg; have hnb21 := NB309_304.out; have hnc21 := NB304_309.out; have hcz22_0 : w20.cell? ⟨gb309, 0, none⟩ = some (.string (⟨#[]⟩ : ByteArray)) := (blk_cell BK309.out 0).trans rfl; have hcz22_1 : w20.cell? ⟨gb309, 1, none⟩ = some (.string (⟨#[]⟩ : ByteArray)) := (blk_cell BK309.out 1).trans rfl; have hfz22_0 := blk_frozen BK309.out 0; have hfz22_1 := blk_frozen BK309.out 1; obtain ⟨Ao23, co23, eo23⟩ := Kd.R_slice HO_6.out; subst eo23) | ((with_reducible refine gate_callee (f := 91) rfl ?_); refine goesL_ (some 53) rfl rfl Tryd.func91 (by kernel_rfl) rfl #[.slice Ao23 x6_1.length co23, .agg #[.string (⟨#[]⟩ : ByteArray), .string t307]] rfl aG ?_; (with_reducible refine (impl_QName_91.calls k1 _ _ x6_1 (⟨#[]⟩ : ByteArray) t307 true _ ?side1 ?side2 A16.out).mono ?_); (case side1 => refine (Kd.R_reads' (e := 92) (base := w.heap.size) (ok := fun k_ => (True ∧ k_ ≠ gb309)) (n := x6_1.length) (c := co23) ?_).2.2; exact (by (with_reducible repeat (first | apply Kd.R_alloc | apply Kd.R_drewN | apply Kd.R_drew)); exact (Kd.R_mono (Kd.R_far (p := ⟨gb309, 1, none⟩) (Kd.R_far (p := ⟨gb309, 0, none⟩) (Kd.R_mono HO_6.out (fun k_ hk => (⟨hk, hk.2⟩ : _ ∧ k_ ≠ gb309))) (fun _ hk => hk.2) (.string (⟨#[]⟩ : ByteArray))) (fun _ hk => hk.2) (.string t307)) (fun _ h_ => h_.1)))); (case side2 => exact (Kd.R_reads' HO_6.out).2.1); rintro e w24 ⟨rfl, hb⟩; refine ⟨_, rfl, ?_⟩; have n0_ := Aside0.mk (Kd.R_below (by (with_reducible repeat (first | apply Kd.R_alloc | apply Kd.R_drewN | apply Kd.R_drew)); exact (Kd.R_mono (Kd.R_far (p := ⟨gb309, 1, none⟩) (Kd.R_far (p := ⟨gb309, 0, none⟩) (Kd.R_mono HO_6.out (fun k_ hk => (⟨hk, hk.2⟩ : _ ∧ k_ ≠ gb309))) (fun _ hk => hk.2) (.string (⟨#[]⟩ : ByteArray))) (fun _ hk => hk.2) (.string t307)) (fun _ h_ => h_.1))) hb); have n1_ := Aside0.mk (blk_below (g := gb304) (o := .cells #[.string ((rd_T76 ((rd_T74 l0 a1).f3) x22_1).f0), .string ((rd_T76 ((rd_T74 l0 a1).f3) x22_1).f1)] 76 (0, 0)) (by (with_reducible repeat (first | apply d1 | apply d2 | apply d3)); refine blk_far ?_ NB304_309.out _; (with_reducible repeat (first | apply d1 | apply d2 | apply d3)); refine blk_far ?_ NB304_309.out _; (with_reducible repeat (first | apply d1 | apply d2 | apply d3)); exact BK304.out) hb); have n2_ := Aside0.mk (blk_below (g := gb309) (o := .cells #[.string (⟨#[]⟩ : ByteArray), .string t307] 92 (0, 0)) (by (with_reducible repeat (first | apply d1 | apply d2 | apply d3)); refine blk_put (cs := #[.string (⟨#[]⟩ : ByteArray), .string (⟨#[]⟩ : ByteArray)]) ?_ 1 _ rfl; (with_reducible repeat (first | apply d1 | apply d2 | apply d3)); refine blk_put (cs := #[.string (⟨#[]⟩ : ByteArray), .string (⟨#[]⟩ : ByteArray)]) ?_ 0 _ rfl; (with_reducible repeat (first | apply d1 | apply d2 | apply d3)); exact BK309.out) hb); have n3_ := Aside0.mk (below_step aE hb); clear HO_6; clear BK304; clear BK309; clear HB; have HO_6 := n0_; have BK304 := n1_; have BK309 := n2_; have HB := n3_; clear n0_ n1_ n2_ n3_; (try clear hb); (try clear hb2); (try clear hk); (try clear hi)))
           go_ret2
           exact ⟨_, by first | rfl | (simp only [aX1, aX2]; rfl) | (simp [*] <;> rfl), by first | exact Kd.R_nil _ _ _ _ _ | exact Kd.N_nil _ _ _ _ _ | exact Kd.V_nil _ _ _ _ _ | exact Kd.Q_nil _ _ _ _ _ | exact Kd.S_nil _ _ _ _ _, aE⟩
          ·replace c17 := Bool.eq_false_iff.mpr c17
           subst c17
           have H1 : (if x6_1.length < 4398046511104 then (impl_attrNames.l0 k1 l0 a1 (x6_1 ++ [(⟨(⟨#[]⟩ : ByteArray), t307⟩ : S92)]) ((rd_T74 l0 a1).f3) (((rd_T74 l0 a1).f3).length : Int) (wrap64 (x22_1 + 1))) else (none)) = some (r1, r2) := by rw [if_neg (show ¬ (false = true) by decide)] at H; exact H
           clear H
           have H := H1
           clear H1
           by_cases c25 : x6_1.length < 4398046511104
           ·rw [if_pos c25] at H
            have LMc25 := Aside0.mk c25
            clear c25
            obtain ⟨y311, hy311⟩ : ∃ y_ : List (S92), y_ = (x6_1 ++ [(⟨(⟨#[]⟩ : ByteArray), t307⟩ : S92)]) := ⟨_, rfl⟩
            replace H : (impl_attrNames.l0 k1 l0 a1 y311 ((rd_T74 l0 a1).f3) (((rd_T74 l0 a1).f3).length : Int) (wrap64 (x22_1 + 1))) = some (r1, r2) := by first | (rw [hy311]; with_reducible exact H) | (have H2_ := (Option.bind_some _ _).symm.trans H; rw [hy311]; with_reducible exact H2_) | (have H2_ := (Option.bind_some _ _).symm.trans H; with_reducible exact H2_) | with_reducible exact H | (rw [hy311]; exact H) | exact H
            have Ny311 := Aside0.mk hy311
            clear hy311
            have H' := Aside0.mk H
            clear H
            have p303 : 0 ≤ (x22_1 : Int) := aD
            have q303 : x22_1 < (((rd_T74 l0 a1).f3).length : Int) := aD
            obtain ⟨ad303, e303, hx303_0, hx303_1⟩ := at_T76 HR302_3.out x22_1 p303 q303
            cases e303
            replace hx303_0 := (HB.out.cell (World.block_lt_of_cell? w _ hx303_0)).trans hx303_0
            replace hx303_1 := (HB.out.cell (World.block_lt_of_cell? w _ hx303_1)).trans hx303_1
            replace p303 := eq_true p303
            replace q303 := eq_true q303
            go_wp2_with (first | ((with_reducible refine gate_dst (N := 8) rfl ?_); refine box_event ?hg (N := 8) ?hd (cs := #[.string (⟨#[]⟩ : ByteArray), .string (⟨#[]⟩ : ByteArray)]) (t := 76) ?hr ?_; (case hd => rfl); (case hg => rfl); (case hr => first | (go_simp; done) | (go_simp; rfl)); intro gb304 hg w26 hbox hb; have n0_ := Aside0.mk (Kd.R_below (aP HO_6.out) hb); have n1_ := Aside0.mk (below_step aB hb); have n2_ := Aside0.mk (hbox); have n3_ := Aside0.mk ((by rw [hg]; exact (below_size aB) : w.heap.size ≤ gb304)); have n4_ := Aside0.mk ((by rw [hg]; exact (below_size aB) : w.heap.size ≤ gb304)); clear HO_6; clear HB; have HO_6 := n0_; have HB := n1_; have BK304 := n2_; have GW304 := n3_; have GE304 := n4_; clear n0_ n1_ n2_ n3_ n4_; clear hb hbox hg; have hcz27_0 : w26.cell? ⟨gb304, 0, none⟩ = some (.string (⟨#[]⟩ : ByteArray)) := (blk_cell BK304.out 0).trans rfl; have hcz27_1 : w26.cell? ⟨gb304, 1, none⟩ = some (.string (⟨#[]⟩ : ByteArray)) := (blk_cell BK304.out 1).trans rfl; have hfz27_0 := blk_frozen BK304.out 0; have hfz27_1 := blk_frozen BK304.out 1) | ((with_reducible refine gate_callee (f := 90) rfl ?_); refine goesL_ (some 28) rfl rfl Tryd.func90 (by kernel_rfl) rfl #[.string ((rd_T76 ((rd_T74 l0 a1).f3) x22_1).f0)] rfl aG ?_; (with_reducible refine (impl_isBinding.calls k1 ((rd_T76 ((rd_T74 l0 a1).f3) x22_1).f0) false _ A10.out).mono ?_); rintro e w' ⟨rfl, ⟨nd, rfl⟩⟩; refine ⟨_, rfl, ?_⟩) | ((with_reducible refine gate_callee (f := 71) rfl ?_); refine goesL_ (some 32) rfl rfl Tryd.func71 (by kernel_rfl) rfl #[.string ((rd_T76 ((rd_T74 l0 a1).f3) x22_1).f0)] rfl aG ?_; (with_reducible refine (impl_Split.calls k1 ((rd_T76 ((rd_T74 l0 a1).f3) x22_1).f0) t306 t307 t308 _ A14.out).mono ?_); rintro e w' ⟨rfl, ⟨nd, rfl⟩⟩; refine ⟨_, rfl, ?_⟩) | ((with_reducible refine gate_dst (N := 12) rfl ?_); refine box_event ?hg (N := 12) ?hd (cs := #[.string (⟨#[]⟩ : ByteArray), .string (⟨#[]⟩ : ByteArray)]) (t := 92) ?hr ?_; (case hd => rfl); (case hg => rfl); (case hr => first | (go_simp; done) | (go_simp; rfl)); intro gb309 hg w28 hbox hb; have n0_ := Aside0.mk (Kd.R_below (Kd.R_elderB (by (with_reducible repeat (first | apply Kd.R_alloc | apply Kd.R_drewN | apply Kd.R_drew)); exact (Kd.R_mono (Kd.R_far (p := ⟨gb304, 1, none⟩) (Kd.R_far (p := ⟨gb304, 0, none⟩) (Kd.R_types HO_6.out BK304.out (by decide)) (fun _ hk => hk.2) (.string ((rd_T76 ((rd_T74 l0 a1).f3) x22_1).f0))) (fun _ hk => hk.2) (.string ((rd_T76 ((rd_T74 l0 a1).f3) x22_1).f1))) (fun _ h_ => h_.1))) gb309 (Nat.le_of_eq hg.symm)) hb); have n1_ := Aside0.mk (blk_below (g := gb304) (o := .cells #[.string ((rd_T76 ((rd_T74 l0 a1).f3) x22_1).f0), .string ((rd_T76 ((rd_T74 l0 a1).f3) x22_1).f1)] 76 (0, 0)) (by (with_reducible repeat (first | apply d1 | apply d2 | apply d3)); refine blk_put (cs := #[.string ((rd_T76 ((rd_T74 l0 a1).f3) x22_1).f0), .string (⟨#[]⟩ : ByteArray)]) ?_ 1 _ rfl; (with_reducible repeat (first | apply d1 | apply d2 | apply d3)); refine blk_put (cs := #[.string (⟨#[]⟩ : ByteArray), .string (⟨#[]⟩ : ByteArray)]) ?_ 0 _ rfl; (with_reducible repeat (first | apply d1 | apply d2 | apply d3)); exact BK304.out) hb); have n2_ := Aside0.mk (below_step aE hb); have n3_ := Aside0.mk (hbox); have n4_ := Aside0.mk ((by rw [hg]; exact (below_size aE) : w.heap.size ≤ gb309)); have n5_ := Aside0.mk ((by rw [hg]; exact (below_size aE) : w.heap.size ≤ gb309)); have n6_ := Aside0.mk ((by rw [hg]; exact Nat.ne_of_lt (blk_lt (g := gb304) (o := .cells #[.string ((rd_T76 ((rd_T74 l0 a1).f3) x22_1).f0), .string ((rd_T76 ((rd_T74 l0 a1).f3) x22_1).f1)] 76 (0, 0)) (by (with_reducible repeat (first | apply d1 | apply d2 | apply d3)); refine blk_put (cs := #[.string ((rd_T76 ((rd_T74 l0 a1).f3) x22_1).f0), .string (⟨#[]⟩ : ByteArray)]) ?_ 1 _ rfl; (with_reducible repeat (first | apply d1 | apply d2 | apply d3)); refine blk_put (cs := #[.string (⟨#[]⟩ : ByteArray), .string (⟨#[]⟩ : ByteArray)]) ?_ 0 _ rfl; (with_reducible repeat (first | apply d1 | apply d2 | apply d3)); exact BK304.out)) : gb304 ≠ gb309)); have n7_ := Aside0.mk ((by rw [hg]; exact Nat.ne_of_gt (blk_lt (g := gb304) (o := .cells #[.string ((rd_T76 ((rd_T74 l0 a1).f3) x22_1).f0), .string ((rd_T76 ((rd_T74 l0 a1).f3) x22_1).f1)] 76 (0, 0)) (by (with_reducible repeat (first | apply d1 | apply d2 | apply d3)); refine blk_put (cs := #[.string ((rd_T76 ((rd_T74 l0 a1).f3) x22_1).f0), .string (⟨#[]⟩ : ByteArray)]) ?_ 1 _ rfl; (with_reducible repeat (first | apply d1 | apply d2 | apply d3)); refine blk_put (cs := #[.string (⟨#[]⟩ : ByteArray), .string (⟨#[]⟩ : ByteArray)]) ?_ 0 _ rfl; (with_reducible repeat (first | apply d1 | apply d2 | apply d3)); exact BK304.out)) : gb309 ≠ gb304)); clear HO_6; clear BK304; clear HB; have HO_6 := n0_; have BK304 := n1_; have HB := n2_; have BK309 := n3_; have GW309 := n4_; have GE309 := n5_; have NB304_309 := n6_; have NB309_304 := n7_; clear n0_ n1_ n2_ n3_ n4_ n5_ n6_ n7_; clear hb hbox hg; have hnb29 := NB309_304.out; have hnc29 := NB304_309.out; have hcz30_0 : w28.cell? ⟨gb309, 0, none⟩ = some (.string (⟨#[]⟩ : ByteArray)) := (blk_cell BK309.out 0).trans rfl; have hcz30_1 : w28.cell? ⟨gb309, 1, none⟩ = some (.string (⟨#[]⟩ : ByteArray)) := (blk_cell BK309.out 1).trans rfl; have hfz30_0 := blk_frozen BK309.out 0; have hfz30_1 := blk_frozen BK309.out 1; obtain ⟨Ao31, co31, eo31⟩ := Kd.R_slice HO_6.out; subst eo31) | ((with_reducible refine gate_callee (f := 91) rfl ?_); refine goesL_ (some 53) rfl rfl Tryd.func91 (by kernel_rfl) rfl #[.slice Ao31 x6_1.length co31, .agg #[.string (⟨#[]⟩ : ByteArray), .string t307]] rfl aG ?_; (with_reducible refine (impl_QName_91.calls k1 _ _ x6_1 (⟨#[]⟩ : ByteArray) t307 false _ ?side1 ?side2 A16.out).mono ?_); (case side1 => refine (Kd.R_reads' (e := 92) (base := w.heap.size) (ok := fun k_ => (True ∧ k_ ≠ gb309)) (n := x6_1.length) (c := co31) ?_).2.2; exact (by (with_reducible repeat (first | apply Kd.R_alloc | apply Kd.R_drewN | apply Kd.R_drew)); exact (Kd.R_mono (Kd.R_far (p := ⟨gb309, 1, none⟩) (Kd.R_far (p := ⟨gb309, 0, none⟩) (Kd.R_mono HO_6.out (fun k_ hk => (⟨hk, hk.2⟩ : _ ∧ k_ ≠ gb309))) (fun _ hk => hk.2) (.string (⟨#[]⟩ : ByteArray))) (fun _ hk => hk.2) (.string t307)) (fun _ h_ => h_.1)))); (case side2 => exact (Kd.R_reads' HO_6.out).2.1); rintro e w32 ⟨rfl, hb⟩; refine ⟨_, rfl, ?_⟩; have n0_ := Aside0.mk (Kd.R_below (by (with_reducible repeat (first | apply Kd.R_alloc | apply Kd.R_drewN | apply Kd.R_drew)); exact (Kd.R_mono (Kd.R_far (p := ⟨gb309, 1, none⟩) (Kd.R_far (p := ⟨gb309, 0, none⟩) (Kd.R_mono HO_6.out (fun k_ hk => (⟨hk, hk.2⟩ : _ ∧ k_ ≠ gb309))) (fun _ hk => hk.2) (.string (⟨#[]⟩ : ByteArray))) (fun _ hk => hk.2) (.string t307)) (fun _ h_ => h_.1))) hb); have n1_ := Aside0.mk (blk_below (g := gb304) (o := .cells #[.string ((rd_T76 ((rd_T74 l0 a1).f3) x22_1).f0), .string ((rd_T76 ((rd_T74 l0 a1).f3) x22_1).f1)] 76 (0, 0)) (by (with_reducible repeat (first | apply d1 | apply d2 | apply d3)); refine blk_far ?_ NB304_309.out _; (with_reducible repeat (first | apply d1 | apply d2 | apply d3)); refine blk_far ?_ NB304_309.out _; (with_reducible repeat (first | apply d1 | apply d2 | apply d3)); exact BK304.out) hb); have n2_ := Aside0.mk (blk_below (g := gb309) (o := .cells #[.string (⟨#[]⟩ : ByteArray), .string t307] 92 (0, 0)) (by (with_reducible repeat (first | apply d1 | apply d2 | apply d3)); refine blk_put (cs := #[.string (⟨#[]⟩ : ByteArray), .string (⟨#[]⟩ : ByteArray)]) ?_ 1 _ rfl; (with_reducible repeat (first | apply d1 | apply d2 | apply d3)); refine blk_put (cs := #[.string (⟨#[]⟩ : ByteArray), .string (⟨#[]⟩ : ByteArray)]) ?_ 0 _ rfl; (with_reducible repeat (first | apply d1 | apply d2 | apply d3)); exact BK309.out) hb); have n3_ := Aside0.mk (below_step aE hb); clear HO_6; clear BK304; clear BK309; clear HB; have HO_6 := n0_; have BK304 := n1_; have BK309 := n2_; have HB := n3_; clear n0_ n1_ n2_ n3_; (try clear hb); (try clear hb2); (try clear hk); (try clear hi); have hcz33_0 : w32.cell? ⟨gb309, 0, none⟩ = some (.string (⟨#[]⟩ : ByteArray)) := (blk_cell BK309.out 0).trans rfl; have hcz33_1 : w32.cell? ⟨gb309, 1, none⟩ = some (.string t307) := (blk_cell BK309.out 1).trans rfl; have hfz33_0 := blk_frozen BK309.out 0; have hfz33_1 := blk_frozen BK309.out 1) | ((with_reducible refine gate_builtin (b := .append) (xs := #[.tmp 54, .tmp 56]) rfl ?_); at_builtin; refine Kd.R_append k92 (w0 := w) w.heap.size rfl (.tmp 54) (.tmp 56) 43 92 (.agg #[(.string ⟨#[]⟩), (.string ⟨#[]⟩)]) 32 rfl Tryd.underlying43 info92 rfl (by decide) (by omega) (.slice Ao31 x6_1.length co31) x6_1 (⟨(⟨#[]⟩ : ByteArray), t307⟩ : S92) [.string (⟨#[]⟩ : ByteArray), .string t307] (fun k_ => k_ ≠ gb309) (fun _ => False) rfl rfl ?aP (fun _ hk => hk.elim) ?aF ?aO ?aB ?aS ?aL ?_; (case aP => exact k92_mkM _ _ _ (⟨(⟨#[]⟩ : ByteArray), t307⟩ : S92)); (case aB => exact aE); (case aF => exact (fun k_ hk => Kd.freshB (g := gb309) (o := .cells #[.string (⟨#[]⟩ : ByteArray), .string t307] 92 (0, 0)) (aP BK309.out) k_ hk)); (case aO => exact (by (with_reducible repeat (first | apply Kd.R_alloc | apply Kd.R_drewN | apply Kd.R_drew)); exact Kd.R_mono HO_6.out (fun _ hk => hk.2))); (case aS => exact (below_size aE)); (case aL => have := LMc25.out; omega); intro v312 w34 ho hb hg hat; rw [← Ny311.out] at ho; have n0_ := Aside0.mk (blk_grown (g := gb304) (o := .cells #[.string ((rd_T76 ((rd_T74 l0 a1).f3) x22_1).f0), .string ((rd_T76 ((rd_T74 l0 a1).f3) x22_1).f1)] 76 (0, 0)) (aP BK304.out) hg (Kd.R_ne HO_6.out BK304.out (by decide))); have n1_ := Aside0.mk (blk_grown (g := gb309) (o := .cells #[.string (⟨#[]⟩ : ByteArray), .string t307] 92 (0, 0)) (aP BK309.out) hg (Kd.R_away HO_6.out (fun _ hk => hk.2))); have n2_ := Aside0.mk (hb); have n3_ := Aside0.mk (ho); clear BK304; clear BK309; clear HB; clear HO_6; have BK304 := n0_; have BK309 := n1_; have HB := n2_; have HO313 := n3_; clear n0_ n1_ n2_ n3_; clear ho hb hg hat))
            go_roundg k1
            case measure => have := HK1.out; omega
            case rel => exact ⟨(y311), (wrap64 (x22_1 + 1)), aR, H', ⟨by have := HK1.out; omega⟩, ⟨by (with_reducible repeat (first | apply Kd.R_alloc | apply Kd.R_drewN | apply Kd.R_drew)); exact Kd.R_mono HO313.out (fun _ hk => trivial)⟩, ⟨aE⟩⟩
           ·rw [if_neg c25] at H
            exact absurd H (by simp)
         ·rw [if_neg c15] at H
          have c15b0 : (t306.toList == ([] : List UInt8)) = false := beq_eq_false_iff_ne.mpr c15
          have c15b1 : (t306.toList != ([] : List UInt8)) = true := bne_iff_ne.mpr c15
          have c15b2 : (t306).toList.isEmpty = false := by (first | exact (List.isEmpty_iff.mpr (eq_of_beq c15b0)) | exact (Bool.eq_false_iff.mpr (fun h_ => by rw [List.isEmpty_iff.mp h_] at c15b0; cases c15b0)))
          replace H := Option.bind_eq_some_iff.mp H
          obtain ⟨⟨t314, t315⟩, A350, H⟩ := H
          replace H : (if t315 = true then ((impl_QName_91.f k1 x6_1 t314 t307).bind fun t316 => (if t316 = true then (some (([] : List (S92)), false)) else (if x6_1.length < 4398046511104 then (impl_attrNames.l0 k1 l0 a1 (x6_1 ++ [(⟨t314, t307⟩ : S92)]) ((rd_T74 l0 a1).f3) (((rd_T74 l0 a1).f3).length : Int) (wrap64 (x22_1 + 1))) else (none)))) else (some (([] : List (S92)), false))) = some (r1, r2) := H
          have A35 := Aside0.mk A350
          clear A350
          by_cases c36 : t315 = true
          ·subst c36
           have H1 : ((impl_QName_91.f k1 x6_1 t314 t307).bind fun t316 => (if t316 = true then (some (([] : List (S92)), false)) else (if x6_1.length < 4398046511104 then (impl_attrNames.l0 k1 l0 a1 (x6_1 ++ [(⟨t314, t307⟩ : S92)]) ((rd_T74 l0 a1).f3) (((rd_T74 l0 a1).f3).length : Int) (wrap64 (x22_1 + 1))) else (none)))) = some (r1, r2) := by rw [if_pos rfl] at H; exact H
           clear H
           have H := H1
           clear H1
           replace H := Option.bind_eq_some_iff.mp H
           obtain ⟨t316, A370, H⟩ := H
           replace H : (if t316 = true then (some (([] : List (S92)), false)) else (if x6_1.length < 4398046511104 then (impl_attrNames.l0 k1 l0 a1 (x6_1 ++ [(⟨t314, t307⟩ : S92)]) ((rd_T74 l0 a1).f3) (((rd_T74 l0 a1).f3).length : Int) (wrap64 (x22_1 + 1))) else (none))) = some (r1, r2) := H
           have A37 := Aside0.mk A370
           clear A370
           by_cases c38 : t316 = true
           ·subst c38
            have H1 : (some (([] : List (S92)), false)) = some (r1, r2) := by rw [if_pos rfl] at H; exact H
            clear H
            have H := H1
            clear H1
            simp only [Option.some.injEq, Prod.mk.injEq] at H
            obtain ⟨rfl, rfl⟩ := H
            have p303 : 0 ≤ (x22_1 : Int) := aD
            have q303 : x22_1 < (((rd_T74 l0 a1).f3).length : Int) := aD
            obtain ⟨ad303, e303, hx303_0, hx303_1⟩ := at_T76 HR302_3.out x22_1 p303 q303
            cases e303
            replace hx303_0 := (HB.out.cell (World.block_lt_of_cell? w _ hx303_0)).trans hx303_0
            replace hx303_1 := (HB.out.cell (World.block_lt_of_cell? w _ hx303_1)).trans hx303_1
            replace p303 := eq_true p303
            replace q303 := eq_true q303
            go_wp2_with (first | ((with_reducible refine gate_dst (N := 8) rfl ?_); refine box_event ?hg (N := 8) ?hd (cs := #[.string (⟨#[]⟩ : ByteArray), .string (⟨#[]⟩ : ByteArray)]) (t := 76) ?hr ?_; (case hd => rfl); (case hg => rfl); (case hr => first | (go_simp; done) | (go_simp; rfl)); intro gb304 hg w39 hbox hb; have n0_ := Aside0.mk (Kd.R_below (aP HO_6.out) hb); have n1_ := Aside0.mk (below_step aB hb); have n2_ := Aside0.mk (hbox); have n3_ := Aside0.mk ((by rw [hg]; exact (below_size aB) : w.heap.size ≤ gb304)); have n4_ := Aside0.mk ((by rw [hg]; exact (below_size aB) : w.heap.size ≤ gb304)); clear HO_6; clear HB; have HO_6 := n0_; have HB := n1_; have BK304 := n2_; have GW304 := n3_; have GE304 := n4_; clear n0_ n1_ n2_ n3_ n4_; clear hb hbox hg; have hcz40_0 : w39.cell? ⟨gb304, 0, none⟩ = some (.string (⟨#[]⟩ : ByteArray)) := (blk_cell BK304.out 0).trans rfl; have hcz40_1 : w39.cell? ⟨gb304, 1, none⟩ = some (.string (⟨#[]⟩ : ByteArray)) := (blk_cell BK304.out 1).trans rfl; have hfz40_0 := blk_frozen BK304.out 0; have hfz40_1 := blk_frozen BK304.out 1) | ((with_reducible refine gate_callee (f := 90) rfl ?_); refine goesL_ (some 28) rfl rfl Tryd.func90 (by kernel_rfl) rfl #[.string ((rd_T76 ((rd_T74 l0 a1).f3) x22_1).f0)] rfl aG ?_; (with_reducible refine (impl_isBinding.calls k1 ((rd_T76 ((rd_T74 l0 a1).f3) x22_1).f0) false _ A10.out).mono ?_); rintro e w' ⟨rfl, ⟨nd, rfl⟩⟩; refine ⟨_, rfl, ?_⟩) | ((with_reducible refine gate_callee (f := 71) rfl ?_); refine goesL_ (some 32) rfl rfl Tryd.func71 (by kernel_rfl) rfl #[.string ((rd_T76 ((rd_T74 l0 a1).f3) x22_1).f0)] rfl aG ?_; (with_reducible refine (impl_Split.calls k1 ((rd_T76 ((rd_T74 l0 a1).f3) x22_1).f0) t306 t307 t308 _ A14.out).mono ?_); rintro e w' ⟨rfl, ⟨nd, rfl⟩⟩; refine ⟨_, rfl, ?_⟩) | ((with_reducible refine gate_dst (N := 12) rfl ?_); refine box_event ?hg (N := 12) ?hd (cs := #[.string (⟨#[]⟩ : ByteArray), .string (⟨#[]⟩ : ByteArray)]) (t := 92) ?hr ?_; (case hd => rfl); (case hg => rfl); (case hr => first | (go_simp; done) | (go_simp; rfl)); intro gb309 hg w41 hbox hb; have n0_ := Aside0.mk (Kd.R_below (Kd.R_elderB (by (with_reducible repeat (first | apply Kd.R_alloc | apply Kd.R_drewN | apply Kd.R_drew)); exact (Kd.R_mono (Kd.R_far (p := ⟨gb304, 1, none⟩) (Kd.R_far (p := ⟨gb304, 0, none⟩) (Kd.R_types HO_6.out BK304.out (by decide)) (fun _ hk => hk.2) (.string ((rd_T76 ((rd_T74 l0 a1).f3) x22_1).f0))) (fun _ hk => hk.2) (.string ((rd_T76 ((rd_T74 l0 a1).f3) x22_1).f1))) (fun _ h_ => h_.1))) gb309 (Nat.le_of_eq hg.symm)) hb); have n1_ := Aside0.mk (blk_below (g := gb304) (o := .cells #[.string ((rd_T76 ((rd_T74 l0 a1).f3) x22_1).f0), .string ((rd_T76 ((rd_T74 l0 a1).f3) x22_1).f1)] 76 (0, 0)) (by (with_reducible repeat (first | apply d1 | apply d2 | apply d3)); refine blk_put (cs := #[.string ((rd_T76 ((rd_T74 l0 a1).f3) x22_1).f0), .string (⟨#[]⟩ : ByteArray)]) ?_ 1 _ rfl; (with_reducible repeat (first | apply d1 | apply d2 | apply d3)); refine blk_put (cs := #[.string (⟨#[]⟩ : ByteArray), .string (⟨#[]⟩ : ByteArray)]) ?_ 0 _ rfl; (with_reducible repeat (first | apply d1 | apply d2 | apply d3)); exact BK304.out) hb); have n2_ := Aside0.mk (below_step aE hb); have n3_ := Aside0.mk (hbox); have n4_ := Aside0.mk ((by rw [hg]; exact (below_size aE) : w.heap.size ≤ gb309)); have n5_ := Aside0.mk ((by rw [hg]; exact (below_size aE) : w.heap.size ≤ gb309)); have n6_ := Aside0.mk ((by rw [hg]; exact Nat.ne_of_lt (blk_lt (g := gb304) (o := .cells #[.string ((rd_T76 ((rd_T74 l0 a1).f3) x22_1).f0), .string ((rd_T76 ((rd_T74 l0 a1).f3) x22_1).f1)] 76 (0, 0)) (by (with_reducible repeat (first | apply d1 | apply d2 | apply d3)); refine blk_put (cs := #[.string ((rd_T76 ((rd_T74 l0 a1).f3) x22_1).f0), .string (⟨#[]⟩ : ByteArray)]) ?_ 1 _ rfl; (with_reducible repeat (first | apply d1 | apply d2 | apply d3)); refine blk_put (cs := #[.string (⟨#[]⟩ : ByteArray), .string (⟨#[]⟩ : ByteArray)]) ?_ 0 _ rfl; (with_reducible repeat (first | apply d1 | apply d2 | apply d3)); exact BK304.out)) : gb304 ≠ gb309)); have n7_ := Aside0.mk ((by rw [hg]; exact Nat.ne_of_gt (blk_lt (g := gb304) (o := .cells #[.string ((rd_T76 ((rd_T74 l0 a1).f3) x22_1).f0), .string ((rd_T76 ((rd_T74 l0 a1).f3) x22_1).f1)] 76 (0, 0)) (by (with_reducible repeat (first | apply d1 | apply d2 | apply d3)); refine blk_put (cs := #[.string ((rd_T76 ((rd_T74 l0 a1).f3) x22_1).f0), .string (⟨#[]⟩ : ByteArray)]) ?_ 1 _ rfl; (with_reducible repeat (first | apply d1 | apply d2 | apply d3)); refine blk_put (cs := #[.string (⟨#[]⟩ : ByteArray), .string (⟨#[]⟩ : ByteArray)]) ?_ 0 _ rfl; (with_reducible repeat (first | apply d1 | apply d2 | apply d3)); exact BK304.out)) : gb309 ≠ gb304)); clear HO_6; clear BK304; clear HB; have HO_6 := n0_; have BK304 := n1_; have HB := n2_; have BK309 := n3_; have GW309 := n4_; have GE309 := n5_; have NB304_309 := n6_; have NB309_304 := n7_; clear n0_ n1_ n2_ n3_ n4_ n5_ n6_ n7_; clear hb hbox hg; have hnb42 := NB309_304.out; have hnc42 := NB304_309.out; have hcz43_0 : w41.cell? ⟨gb309, 0, none⟩ = some (.string (⟨#[]⟩ : ByteArray)) := (blk_cell BK309.out 0).trans rfl; have hcz43_1 : w41.cell? ⟨gb309, 1, none⟩ = some (.string (⟨#[]⟩ : ByteArray)) := (blk_cell BK309.out 1).trans rfl; have hfz43_0 := blk_frozen BK309.out 0; have hfz43_1 := blk_frozen BK309.out 1) | ((with_reducible refine gate_callee (f := 60) rfl ?_); refine goesL_ (some 44) rfl rfl Tryd.func60 (by kernel_rfl) rfl #[.slice (some ad302) l0.length c0, .int .i64 a1, .string t306] rfl aG ?_; (with_reducible refine (impl_bound.calls k1 _ _ l0 a1 t306 t314 true _ ?side1 ?side2 A35.out).mono ?_); (case side1 => exact Kd.C_below HR0.out aE); (case side2 => exact HC0.out); rintro e w44 ⟨rfl, hb⟩; refine ⟨_, rfl, ?_⟩; have n0_ := Aside0.mk (Kd.R_below (by (with_reducible repeat (first | apply Kd.R_alloc | apply Kd.R_drewN | apply Kd.R_drew)); exact (Kd.R_mono (Kd.R_far (p := ⟨gb309, 1, none⟩) (Kd.R_far (p := ⟨gb309, 0, none⟩) (Kd.R_mono HO_6.out (fun k_ hk => (⟨hk, hk.2⟩ : _ ∧ k_ ≠ gb309))) (fun _ hk => hk.2) (.string (⟨#[]⟩ : ByteArray))) (fun _ hk => hk.2) (.string t307)) (fun _ h_ => h_.1))) hb); have n1_ := Aside0.mk (blk_below (g := gb304) (o := .cells #[.string ((rd_T76 ((rd_T74 l0 a1).f3) x22_1).f0), .string ((rd_T76 ((rd_T74 l0 a1).f3) x22_1).f1)] 76 (0, 0)) (by (with_reducible repeat (first | apply d1 | apply d2 | apply d3)); refine blk_far ?_ NB304_309.out _; (with_reducible repeat (first | apply d1 | apply d2 | apply d3)); refine blk_far ?_ NB304_309.out _; (with_reducible repeat (first | apply d1 | apply d2 | apply d3)); exact BK304.out) hb); have n2_ := Aside0.mk (blk_below (g := gb309) (o := .cells #[.string (⟨#[]⟩ : ByteArray), .string t307] 92 (0, 0)) (by (with_reducible repeat (first | apply d1 | apply d2 | apply d3)); refine blk_put (cs := #[.string (⟨#[]⟩ : ByteArray), .string (⟨#[]⟩ : ByteArray)]) ?_ 1 _ rfl; (with_reducible repeat (first | apply d1 | apply d2 | apply d3)); refine blk_put (cs := #[.string (⟨#[]⟩ : ByteArray), .string (⟨#[]⟩ : ByteArray)]) ?_ 0 _ rfl; (with_reducible repeat (first | apply d1 | apply d2 | apply d3)); exact BK309.out) hb); have n3_ := Aside0.mk (below_step aE hb); clear HO_6; clear BK304; clear BK309; clear HB; have HO_6 := n0_; have BK304 := n1_; have BK309 := n2_; have HB := n3_; clear n0_ n1_ n2_ n3_; (try clear hb); (try clear hb2); (try clear hk); (try clear hi); have hcz45_0 : w44.cell? ⟨gb309, 0, none⟩ = some (.string (⟨#[]⟩ : ByteArray)) := (blk_cell BK309.out 0).trans rfl; have hcz45_1 : w44.cell? ⟨gb309, 1, none⟩ = some (.string t307) := (blk_cell BK309.out 1).trans rfl; have hfz45_0 := blk_frozen BK309.out 0; have hfz45_1 := blk_frozen BK309.out 1; obtain ⟨Ao46, co46, eo46⟩ := Kd.R_slice HO_6.out; subst eo46) | ((with_reducible refine gate_callee (f := 91) rfl ?_); refine goesL_ (some 53) rfl rfl Tryd.func91 (by kernel_rfl) rfl #[.slice Ao46 x6_1.length co46, .agg #[.string t314, .string t307]] rfl aG ?_; (with_reducible refine (impl_QName_91.calls k1 _ _ x6_1 t314 t307 true _ ?side1 ?side2 A37.out).mono ?_); (case side1 => refine (Kd.R_reads' (e := 92) (base := w.heap.size) (ok := fun k_ => (True ∧ k_ ≠ gb309)) (n := x6_1.length) (c := co46) ?_).2.2; exact (by (with_reducible repeat (first | apply Kd.R_alloc | apply Kd.R_drewN | apply Kd.R_drew)); exact (Kd.R_mono (Kd.R_far (p := ⟨gb309, 0, none⟩) (Kd.R_mono HO_6.out (fun k_ hk => (⟨hk, hk.2⟩ : _ ∧ k_ ≠ gb309))) (fun _ hk => hk.2) (.string t314)) (fun _ h_ => h_.1)))); (case side2 => exact (Kd.R_reads' HO_6.out).2.1); rintro e w47 ⟨rfl, hb⟩; refine ⟨_, rfl, ?_⟩; have n0_ := Aside0.mk (Kd.R_below (by (with_reducible repeat (first | apply Kd.R_alloc | apply Kd.R_drewN | apply Kd.R_drew)); exact (Kd.R_mono (Kd.R_far (p := ⟨gb309, 0, none⟩) (Kd.R_mono HO_6.out (fun k_ hk => (⟨hk, hk.2⟩ : _ ∧ k_ ≠ gb309))) (fun _ hk => hk.2) (.string t314)) (fun _ h_ => h_.1))) hb); have n1_ := Aside0.mk (blk_below (g := gb304) (o := .cells #[.string ((rd_T76 ((rd_T74 l0 a1).f3) x22_1).f0), .string ((rd_T76 ((rd_T74 l0 a1).f3) x22_1).f1)] 76 (0, 0)) (by (with_reducible repeat (first | apply d1 | apply d2 | apply d3)); refine blk_far ?_ NB304_309.out _; (with_reducible repeat (first | apply d1 | apply d2 | apply d3)); exact BK304.out) hb); have n2_ := Aside0.mk (blk_below (g := gb309) (o := .cells #[.string t314, .string t307] 92 (0, 0)) (by (with_reducible repeat (first | apply d1 | apply d2 | apply d3)); refine blk_put (cs := #[.string (⟨#[]⟩ : ByteArray), .string t307]) ?_ 0 _ rfl; (with_reducible repeat (first | apply d1 | apply d2 | apply d3)); exact BK309.out) hb); have n3_ := Aside0.mk (below_step aE hb); clear HO_6; clear BK304; clear BK309; clear HB; have HO_6 := n0_; have BK304 := n1_; have BK309 := n2_; have HB := n3_; clear n0_ n1_ n2_ n3_; (try clear hb); (try clear hb2); (try clear hk); (try clear hi)))
            go_ret2
            exact ⟨_, by first | rfl | (simp only [aX1, aX2]; rfl) | (simp [*] <;> rfl), by first | exact Kd.R_nil _ _ _ _ _ | exact Kd.N_nil _ _ _ _ _ | exact Kd.V_nil _ _ _ _ _ | exact Kd.Q_nil _ _ _ _ _ | exact Kd.S_nil _ _ _ _ _, aE⟩
           ·replace c38 := Bool.eq_false_iff.mpr c38
            subst c38
            have H1 : (if x6_1.length < 4398046511104 then (impl_attrNames.l0 k1 l0 a1 (x6_1 ++ [(⟨t314, t307⟩ : S92)]) ((rd_T74 l0 a1).f3) (((rd_T74 l0 a1).f3).length : Int) (wrap64 (x22_1 + 1))) else (none)) = some (r1, r2) := by rw [if_neg (show ¬ (false = true) by decide)] at H; exact H
            clear H
            have H := H1
            clear H1
            by_cases c48 : x6_1.length < 4398046511104
            ·rw [if_pos c48] at H
             have LMc48 := Aside0.mk c48
             clear c48
             obtain ⟨y317, hy317⟩ : ∃ y_ : List (S92), y_ = (x6_1 ++ [(⟨t314, t307⟩ : S92)]) := ⟨_, rfl⟩
             replace H : (impl_attrNames.l0 k1 l0 a1 y317 ((rd_T74 l0 a1).f3) (((rd_T74 l0 a1).f3).length : Int) (wrap64 (x22_1 + 1))) = some (r1, r2) := by first | (rw [hy317]; with_reducible exact H) | (have H2_ := (Option.bind_some _ _).symm.trans H; rw [hy317]; with_reducible exact H2_) | (have H2_ := (Option.bind_some _ _).symm.trans H; with_reducible exact H2_) | with_reducible exact H | (rw [hy317]; exact H) | exact H
             have Ny317 := Aside0.mk hy317
             clear hy317
             have H' := Aside0.mk H
             clear H
             have p303 : 0 ≤ (x22_1 : Int) := aD
             have q303 : x22_1 < (((rd_T74 l0 a1).f3).length : Int) := aD
             obtain ⟨ad303, e303, hx303_0, hx303_1⟩ := at_T76 HR302_3.out x22_1 p303 q303
             cases e303
             replace hx303_0 := (HB.out.cell (World.block_lt_of_cell? w _ hx303_0)).trans hx303_0
             replace hx303_1 := (HB.out.cell (World.block_lt_of_cell? w _ hx303_1)).trans hx303_1
             replace p303 := eq_true p303
             replace q303 := eq_true q303
             go_wp2_with (first | ((with_reducible refine gate_dst (N := 8) rfl ?_); refine box_event ?hg (N := 8) ?hd (cs := #[.string (⟨#[]⟩ : ByteArray), .string (⟨#[]⟩ : ByteArray)]) (t := 76) ?hr ?_; (case hd => rfl); (case hg => rfl); (case hr => first | (go_simp; done) | (go_simp; rfl)); intro gb304 hg w49 hbox hb; have n0_ := Aside0.mk (Kd.R_below (aP HO_6.out) hb); have n1_ := Aside0.mk (below_step aB hb); have n2_ := Aside0.mk (hbox); have n3_ := Aside0.mk ((by rw [hg]; exact (below_size aB) : w.heap.size ≤ gb304)); have n4_ := Aside0.mk ((by rw [hg]; exact (below_size aB) : w.heap.size ≤ gb304)); clear HO_6; clear HB; have HO_6 := n0_; have HB := n1_; have BK304 := n2_; have GW304 := n3_; have GE304 := n4_; clear n0_ n1_ n2_ n3_ n4_; clear hb hbox hg; have hcz50_0 : w49.cell? ⟨gb304, 0, none⟩ = some (.string (⟨#[]⟩ : ByteArray)) := (blk_cell BK304.out 0).trans rfl; have hcz50_1 : w49.cell? ⟨gb304, 1, none⟩ = some (.string (⟨#[]⟩ : ByteArray)) := (blk_cell BK304.out 1).trans rfl; have hfz50_0 := blk_frozen BK304.out 0; have hfz50_1 := blk_frozen BK304.out 1) | ((with_reducible refine gate_callee (f := 90) rfl ?_); refine goesL_ (some 28) rfl rfl Tryd.func90 (by kernel_rfl) rfl #[.string ((rd_T76 ((rd_T74 l0 a1).f3) x22_1).f0)] rfl aG ?_; (with_reducible refine (impl_isBinding.calls k1 ((rd_T76 ((rd_T74 l0 a1).f3) x22_1).f0) false _ A10.out).mono ?_); rintro e w' ⟨rfl, ⟨nd, rfl⟩⟩; refine ⟨_, rfl, ?_⟩) | ((with_reducible refine gate_callee (f := 71) rfl ?_); refine goesL_ (some 32) rfl rfl Tryd.func71 (by kernel_rfl) rfl #[.string ((rd_T76 ((rd_T74 l0 a1).f3) x22_1).f0)] rfl aG ?_; (with_reducible refine (impl_Split.calls k1 ((rd_T76 ((rd_T74 l0 a1).f3) x22_1).f0) t306 t307 t308 _ A14.out).mono ?_); rintro e w' ⟨rfl, ⟨nd, rfl⟩⟩; refine ⟨_, rfl, ?_⟩) | ((with_reducible refine gate_dst (N := 12) rfl ?_); refine box_event ?hg (N := 12) ?hd (cs := #[.string (⟨#[]⟩ : ByteArray), .string (⟨#[]⟩ : ByteArray)]) (t := 92) ?hr ?_; (case hd => rfl); (case hg => rfl); (case hr => first | (go_simp; done) | (go_simp; rfl)); intro gb309 hg w51 hbox hb; have n0_ := Aside0.mk (Kd.R_below (Kd.R_elderB (by (with_reducible repeat (first | apply Kd.R_alloc | apply Kd.R_drewN | apply Kd.R_drew)); exact (Kd.R_mono (Kd.R_far (p := ⟨gb304, 1, none⟩) (Kd.R_far (p := ⟨gb304, 0, none⟩) (Kd.R_types HO_6.out BK304.out (by decide)) (fun _ hk => hk.2) (.string ((rd_T76 ((rd_T74 l0 a1).f3) x22_1).f0))) (fun _ hk => hk.2) (.string ((rd_T76 ((rd_T74 l0 a1).f3) x22_1).f1))) (fun _ h_ => h_.1))) gb309 (Nat.le_of_eq hg.symm)) hb); have n1_ := Aside0.mk (blk_below (g := gb304) (o := .cells #[.string ((rd_T76 ((rd_T74 l0 a1).f3) x22_1).f0), .string ((rd_T76 ((rd_T74 l0 a1).f3) x22_1).f1)] 76 (0, 0)) (by (with_reducible repeat (first | apply d1 | apply d2 | apply d3)); refine blk_put (cs := #[.string ((rd_T76 ((rd_T74 l0 a1).f3) x22_1).f0), .string (⟨#[]⟩ : ByteArray)]) ?_ 1 _ rfl; (with_reducible repeat (first | apply d1 | apply d2 | apply d3)); refine blk_put (cs := #[.string (⟨#[]⟩ : ByteArray), .string (⟨#[]⟩ : ByteArray)]) ?_ 0 _ rfl; (with_reducible repeat (first | apply d1 | apply d2 | apply d3)); exact BK304.out) hb); have n2_ := Aside0.mk (below_step aE hb); have n3_ := Aside0.mk (hbox); have n4_ := Aside0.mk ((by rw [hg]; exact (below_size aE) : w.heap.size ≤ gb309)); have n5_ := Aside0.mk ((by rw [hg]; exact (below_size aE) : w.heap.size ≤ gb309)); have n6_ := Aside0.mk ((by rw [hg]; exact Nat.ne_of_lt (blk_lt (g := gb304) (o := .cells #[.string ((rd_T76 ((rd_T74 l0 a1).f3) x22_1).f0), .string ((rd_T76 ((rd_T74 l0 a1).f3) x22_1).f1)] 76 (0, 0)) (by (with_reducible repeat (first | apply d1 | apply d2 | apply d3)); refine blk_put (cs := #[.string ((rd_T76 ((rd_T74 l0 a1).f3) x22_1).f0), .string (⟨#[]⟩ : ByteArray)]) ?_ 1 _ rfl; (with_reducible repeat (first | apply d1 | apply d2 | apply d3)); refine blk_put (cs := #[.string (⟨#[]⟩ : ByteArray), .string (⟨#[]⟩ : ByteArray)]) ?_ 0 _ rfl; (with_reducible repeat (first | apply d1 | apply d2 | apply d3)); exact BK304.out)) : gb304 ≠ gb309)); have n7_ := Aside0.mk ((by rw [hg]; exact Nat.ne_of_gt (blk_lt (g := gb304) (o := .cells #[.string ((rd_T76 ((rd_T74 l0 a1).f3) x22_1).f0), .string ((rd_T76 ((rd_T74 l0 a1).f3) x22_1).f1)] 76 (0, 0)) (by (with_reducible repeat (first | apply d1 | apply d2 | apply d3)); refine blk_put (cs := #[.string ((rd_T76 ((rd_T74 l0 a1).f3) x22_1).f0), .string (⟨#[]⟩ : ByteArray)]) ?_ 1 _ rfl; (with_reducible repeat (first | apply d1 | apply d2 | apply d3)); refine blk_put (cs := #[.string (⟨#[]⟩ : ByteArray), .string (⟨#[]⟩ : ByteArray)]) ?_ 0 _ rfl; (with_reducible repeat (first | apply d1 | apply d2 | apply d3)); exact BK304.out)) : gb309 ≠ gb304)); clear HO_6; clear BK304; clear HB; have HO_6 := n0_; have BK304 := n1_; have HB := n2_; have BK309 := n3_; have GW309 := n4_; have GE309 := n5_; have NB304_309 := n6_; have NB309_304 := n7_; clear n0_ n1_ n2_ n3_ n4_ n5_ n6_ n7_; clear hb hbox hg; have hnb52 := NB309_304.out; have hnc52 := NB304_309.out; have hcz53_0 : w51.cell? ⟨gb309, 0, none⟩ = some (.string (⟨#[]⟩ : ByteArray)) := (blk_cell BK309.out 0).trans rfl; have hcz53_1 : w51.cell? ⟨gb309, 1, none⟩ = some (.string (⟨#[]⟩ : ByteArray)) := (blk_cell BK309.out 1).trans rfl; have hfz53_0 := blk_frozen BK309.out 0; have hfz53_1 := blk_frozen BK309.out 1) | ((with_reducible refine gate_callee (f := 60) rfl ?_); refine goesL_ (some 44) rfl rfl Tryd.func60 (by kernel_rfl) rfl #[.slice (some ad302) l0.length c0, .int .i64 a1, .string t306] rfl aG ?_; (with_reducible refine (impl_bound.calls k1 _ _ l0 a1 t306 t314 true _ ?side1 ?side2 A35.out).mono ?_); (case side1 => exact Kd.C_below HR0.out aE); (case side2 => exact HC0.out); rintro e w54 ⟨rfl, hb⟩; refine ⟨_, rfl, ?_⟩; have n0_ := Aside0.mk (Kd.R_below (by (with_reducible repeat (first | apply Kd.R_alloc | apply Kd.R_drewN | apply Kd.R_drew)); exact (Kd.R_mono (Kd.R_far (p := ⟨gb309, 1, none⟩) (Kd.R_far (p := ⟨gb309, 0, none⟩) (Kd.R_mono HO_6.out (fun k_ hk => (⟨hk, hk.2⟩ : _ ∧ k_ ≠ gb309))) (fun _ hk => hk.2) (.string (⟨#[]⟩ : ByteArray))) (fun _ hk => hk.2) (.string t307)) (fun _ h_ => h_.1))) hb); have n1_ := Aside0.mk (blk_below (g := gb304) (o := .cells #[.string ((rd_T76 ((rd_T74 l0 a1).f3) x22_1).f0), .string ((rd_T76 ((rd_T74 l0 a1).f3) x22_1).f1)] 76 (0, 0)) (by (with_reducible repeat (first | apply d1 | apply d2 | apply d3)); refine blk_far ?_ NB304_309.out _; (with_reducible repeat (first | apply d1 | apply d2 | apply d3)); refine blk_far ?_ NB304_309.out _; (with_reducible repeat (first | apply d1 | apply d2 | apply d3)); exact BK304.out) hb); have n2_ := Aside0.mk (blk_below (g := gb309) (o := .cells #[.string (⟨#[]⟩ : ByteArray), .string t307] 92 (0, 0)) (by (with_reducible repeat (first | apply d1 | apply d2 | apply d3)); refine blk_put (cs := #[.string (⟨#[]⟩ : ByteArray), .string (⟨#[]⟩ : ByteArray)]) ?_ 1 _ rfl; (with_reducible repeat (first | apply d1 | apply d2 | apply d3)); refine blk_put (cs := #[.string (⟨#[]⟩ : ByteArray), .string (⟨#[]⟩ : ByteArray)]) ?_ 0 _ rfl; (with_reducible repeat (first | apply d1 | apply d2 | apply d3)); exact BK309.out) hb); have n3_ := Aside0.mk (below_step aE hb); clear HO_6; clear BK304; clear BK309; clear HB; have HO_6 := n0_; have BK304 := n1_; have BK309 := n2_; have HB := n3_; clear n0_ n1_ n2_ n3_; (try clear hb); (try clear hb2); (try clear hk); (try clear hi); have hcz55_0 : w54.cell? ⟨gb309, 0, none⟩ = some (.string (⟨#[]⟩ : ByteArray)) := (blk_cell BK309.out 0).trans rfl; have hcz55_1 : w54.cell? ⟨gb309, 1, none⟩ = some (.string t307) := (blk_cell BK309.out 1).trans rfl; have hfz55_0 := blk_frozen BK309.out 0; have hfz55_1 := blk_frozen BK309.out 1; obtain ⟨Ao56, co56, eo56⟩ := Kd.R_slice HO_6.out; subst eo56) | ((with_reducible refine gate_callee (f := 91) rfl ?_); refine goesL_ (some 53) rfl rfl Tryd.func91 (by kernel_rfl) rfl #[.slice Ao56 x6_1.length co56, .agg #[.string t314, .string t307]] rfl aG ?_; (with_reducible refine (impl_QName_91.calls k1 _ _ x6_1 t314 t307 false _ ?side1 ?side2 A37.out).mono ?_); (case side1 => refine (Kd.R_reads' (e := 92) (base := w.heap.size) (ok := fun k_ => (True ∧ k_ ≠ gb309)) (n := x6_1.length) (c := co56) ?_).2.2; exact (by (with_reducible repeat (first | apply Kd.R_alloc | apply Kd.R_drewN | apply Kd.R_drew)); exact (Kd.R_mono (Kd.R_far (p := ⟨gb309, 0, none⟩) (Kd.R_mono HO_6.out (fun k_ hk => (⟨hk, hk.2⟩ : _ ∧ k_ ≠ gb309))) (fun _ hk => hk.2) (.string t314)) (fun _ h_ => h_.1)))); (case side2 => exact (Kd.R_reads' HO_6.out).2.1); rintro e w57 ⟨rfl, hb⟩; refine ⟨_, rfl, ?_⟩; have n0_ := Aside0.mk (Kd.R_below (by (with_reducible repeat (first | apply Kd.R_alloc | apply Kd.R_drewN | apply Kd.R_drew)); exact (Kd.R_mono (Kd.R_far (p := ⟨gb309, 0, none⟩) (Kd.R_mono HO_6.out (fun k_ hk => (⟨hk, hk.2⟩ : _ ∧ k_ ≠ gb309))) (fun _ hk => hk.2) (.string t314)) (fun _ h_ => h_.1))) hb); have n1_ := Aside0.mk (blk_below (g := gb304) (o := .cells #[.string ((rd_T76 ((rd_T74 l0 a1).f3) x22_1).f0), .string ((rd_T76 ((rd_T74 l0 a1).f3) x22_1).f1)] 76 (0, 0)) (by (with_reducible repeat (first | apply d1 | apply d2 | apply d3)); refine blk_far ?_ NB304_309.out _; (with_reducible repeat (first | apply d1 | apply d2 | apply d3)); exact BK304.out) hb); have n2_ := Aside0.mk (blk_below (g := gb309) (o := .cells #[.string t314, .string t307] 92 (0, 0)) (by (with_reducible repeat (first | apply d1 | apply d2 | apply d3)); refine blk_put (cs := #[.string (⟨#[]⟩ : ByteArray), .string t307]) ?_ 0 _ rfl; (with_reducible repeat (first | apply d1 | apply d2 | apply d3)); exact BK309.out) hb); have n3_ := Aside0.mk (below_step aE hb); clear HO_6; clear BK304; clear BK309; clear HB; have HO_6 := n0_; have BK304 := n1_; have BK309 := n2_; have HB := n3_; clear n0_ n1_ n2_ n3_; (try clear hb); (try clear hb2); (try clear hk); (try clear hi); have hcz58_0 : w57.cell? ⟨gb309, 0, none⟩ = some (.string t314) := (blk_cell BK309.out 0).trans rfl; have hcz58_1 : w57.cell? ⟨gb309, 1, none⟩ = some (.string t307) := (blk_cell BK309.out 1).trans rfl; have hfz58_0 := blk_frozen BK309.out 0; have hfz58_1 := blk_frozen BK309.out 1) | ((with_reducible refine gate_builtin (b := .append) (xs := #[.tmp 54, .tmp 56]) rfl ?_); at_builtin; refine Kd.R_append k92 (w0 := w) w.heap.size rfl (.tmp 54) (.tmp 56) 43 92 (.agg #[(.string ⟨#[]⟩), (.string ⟨#[]⟩)]) 32 rfl Tryd.underlying43 info92 rfl (by decide) (by omega) (.slice Ao56 x6_1.length co56) x6_1 (⟨t314, t307⟩ : S92) [.string t314, .string t307] (fun k_ => k_ ≠ gb309) (fun _ => False) rfl rfl ?aP (fun _ hk => hk.elim) ?aF ?aO ?aB ?aS ?aL ?_; (case aP => exact k92_mkM _ _ _ (⟨t314, t307⟩ : S92)); (case aB => exact aE); (case aF => exact (fun k_ hk => Kd.freshB (g := gb309) (o := .cells #[.string t314, .string t307] 92 (0, 0)) (aP BK309.out) k_ hk)); (case aO => exact (by (with_reducible repeat (first | apply Kd.R_alloc | apply Kd.R_drewN | apply Kd.R_drew)); exact Kd.R_mono HO_6.out (fun _ hk => hk.2))); (case aS => exact (below_size aE)); (case aL => have := LMc48.out; omega); intro v318 w59 ho hb hg hat; rw [← Ny317.out] at ho; have n0_ := Aside0.mk (blk_grown (g := gb304) (o := .cells #[.string ((rd_T76 ((rd_T74 l0 a1).f3) x22_1).f0), .string ((rd_T76 ((rd_T74 l0 a1).f3) x22_1).f1)] 76 (0, 0)) (aP BK304.out) hg (Kd.R_ne HO_6.out BK304.out (by decide))); have n1_ := Aside0.mk (blk_grown (g := gb309) (o := .cells #[.string t314, .string t307] 92 (0, 0)) (aP BK309.out) hg (Kd.R_away HO_6.out (fun _ hk => hk.2))); have n2_ := Aside0.mk (hb); have n3_ := Aside0.mk (ho); clear BK304; clear BK309; clear HB; clear HO_6; have BK304 := n0_; have BK309 := n1_; have HB := n2_; have HO319 := n3_; clear n0_ n1_ n2_ n3_; clear ho hb hg hat))
             go_roundg k1
             case measure => have := HK1.out; omega
             case rel => exact ⟨(y317), (wrap64 (x22_1 + 1)), aR, H', ⟨by have := HK1.out; omega⟩, ⟨by (with_reducible repeat (first | apply Kd.R_alloc | apply Kd.R_drewN | apply Kd.R_drew)); exact Kd.R_mono HO319.out (fun _ hk => trivial)⟩, ⟨aE⟩⟩
            ·rw [if_neg c48] at H
             exact absurd H (by simp)
          ·replace c36 := Bool.eq_false_iff.mpr c36
           subst c36
           have H1 : (some (([] : List (S92)), false)) = some (r1, r2) := by rw [if_neg (show ¬ (false = true) by decide)] at H; exact H
           clear H
           have H := H1
           clear H1
           simp only [Option.some.injEq, Prod.mk.injEq] at H
           obtain ⟨rfl, rfl⟩ := H
           have p303 : 0 ≤ (x22_1 : Int) := aD
           have q303 : x22_1 < (((rd_T74 l0 a1).f3).length : Int) := aD
           obtain ⟨ad303, e303, hx303_0, hx303_1⟩ := at_T76 HR302_3.out x22_1 p303 q303
           cases e303
           replace hx303_0 := (HB.out.cell (World.block_lt_of_cell? w _ hx303_0)).trans hx303_0
           replace hx303_1 := (HB.out.cell (World.block_lt_of_cell? w _ hx303_1)).trans hx303_1
           replace p303 := eq_true p303
           replace q303 := eq_true q303
           go_wp2_with (first | ((with_reducible refine gate_dst (N := 8) rfl ?_); refine box_event ?hg (N := 8) ?hd (cs := #[.string (⟨#[]⟩ : ByteArray), .string (⟨#[]⟩ : ByteArray)]) (t := 76) ?hr ?_; (case hd => rfl); (case hg => rfl); (case hr => first | (go_simp; done) | (go_simp; rfl)); intro gb304 hg w60 hbox hb; have n0_ := Aside0.mk (Kd.R_below (aP HO_6.out) hb); have n1_ := Aside0.mk (below_step aB hb); have n2_ := Aside0.mk (hbox); have n3_ := Aside0.mk ((by rw [hg]; exact (below_size aB) : w.heap.size ≤ gb304)); have n4_ := Aside0.mk ((by rw [hg]; exact (below_size aB) : w.heap.size ≤ gb304)); clear HO_6; clear HB; have HO_6 := n0_; have HB := n1_; have BK304 := n2_; have GW304 := n3_; have GE304 := n4_; clear n0_ n1_ n2_ n3_ n4_; clear hb hbox hg; have hcz61_0 : w60.cell? ⟨gb304, 0, none⟩ = some (.string (⟨#[]⟩ : ByteArray)) := (blk_cell BK304.out 0).trans rfl; have hcz61_1 : w60.cell? ⟨gb304, 1, none⟩ = some (.string (⟨#[]⟩ : ByteArray)) := (blk_cell BK304.out 1).trans rfl; have hfz61_0 := blk_frozen BK304.out 0; have hfz61_1 := blk_frozen BK304.out 1) | ((with_reducible refine gate_callee (f := 90) rfl ?_); refine goesL_ (some 28) rfl rfl Tryd.func90 (by kernel_rfl) rfl #[.string ((rd_T76 ((rd_T74 l0 a1).f3) x22_1).f0)] rfl aG ?_; (with_reducible refine (impl_isBinding.calls k1 ((rd_T76 ((rd_T74 l0 a1).f3) x22_1).f0) false _ A10.out).mono ?_); rintro e w' ⟨rfl, ⟨nd, rfl⟩⟩; refine ⟨_, rfl, ?_⟩) | ((with_reducible refine gate_callee (f := 71) rfl ?_); refine goesL_ (some 32) rfl rfl Tryd.func71 (by kernel_rfl) rfl #[.string ((rd_T76 ((rd_T74 l0 a1).f3) x22_1).f0)] rfl aG ?_; (with_reducible refine (impl_Split.calls k1 ((rd_T76 ((rd_T74 l0 a1).f3) x22_1).f0) t306 t307 t308 _ A14.out).mono ?_); rintro e w' ⟨rfl, ⟨nd, rfl⟩⟩; refine ⟨_, rfl, ?_⟩) | ((with_reducible refine gate_dst (N := 12) rfl ?_); refine box_event ?hg (N := 12) ?hd (cs := #[.string (⟨#[]⟩ : ByteArray), .string (⟨#[]⟩ : ByteArray)]) (t := 92) ?hr ?_; (case hd => rfl); (case hg => rfl); (case hr => first | (go_simp; done) | (go_simp; rfl)); intro gb309 hg w62 hbox hb; have n0_ := Aside0.mk (Kd.R_below (Kd.R_elderB (by (with_reducible repeat (first | apply Kd.R_alloc | apply Kd.R_drewN | apply Kd.R_drew)); exact (Kd.R_mono (Kd.R_far (p := ⟨gb304, 1, none⟩) (Kd.R_far (p := ⟨gb304, 0, none⟩) (Kd.R_types HO_6.out BK304.out (by decide)) (fun _ hk => hk.2) (.string ((rd_T76 ((rd_T74 l0 a1).f3) x22_1).f0))) (fun _ hk => hk.2) (.string ((rd_T76 ((rd_T74 l0 a1).f3) x22_1).f1))) (fun _ h_ => h_.1))) gb309 (Nat.le_of_eq hg.symm)) hb); have n1_ := Aside0.mk (blk_below (g := gb304) (o := .cells #[.string ((rd_T76 ((rd_T74 l0 a1).f3) x22_1).f0), .string ((rd_T76 ((rd_T74 l0 a1).f3) x22_1).f1)] 76 (0, 0)) (by (with_reducible repeat (first | apply d1 | apply d2 | apply d3)); refine blk_put (cs := #[.string ((rd_T76 ((rd_T74 l0 a1).f3) x22_1).f0), .string (⟨#[]⟩ : ByteArray)]) ?_ 1 _ rfl; (with_reducible repeat (first | apply d1 | apply d2 | apply d3)); refine blk_put (cs := #[.string (⟨#[]⟩ : ByteArray), .string (⟨#[]⟩ : ByteArray)]) ?_ 0 _ rfl; (with_reducible repeat (first | apply d1 | apply d2 | apply d3)); exact BK304.out) hb); have n2_ := Aside0.mk (below_step aE hb); have n3_ := Aside0.mk (hbox); have n4_ := Aside0.mk ((by rw [hg]; exact (below_size aE) : w.heap.size ≤ gb309)); have n5_ := Aside0.mk ((by rw [hg]; exact (below_size aE) : w.heap.size ≤ gb309)); have n6_ := Aside0.mk ((by rw [hg]; exact Nat.ne_of_lt (blk_lt (g := gb304) (o := .cells #[.string ((rd_T76 ((rd_T74 l0 a1).f3) x22_1).f0), .string ((rd_T76 ((rd_T74 l0 a1).f3) x22_1).f1)] 76 (0, 0)) (by (with_reducible repeat (first | apply d1 | apply d2 | apply d3)); refine blk_put (cs := #[.string ((rd_T76 ((rd_T74 l0 a1).f3) x22_1).f0), .string (⟨#[]⟩ : ByteArray)]) ?_ 1 _ rfl; (with_reducible repeat (first | apply d1 | apply d2 | apply d3)); refine blk_put (cs := #[.string (⟨#[]⟩ : ByteArray), .string (⟨#[]⟩ : ByteArray)]) ?_ 0 _ rfl; (with_reducible repeat (first | apply d1 | apply d2 | apply d3)); exact BK304.out)) : gb304 ≠ gb309)); have n7_ := Aside0.mk ((by rw [hg]; exact Nat.ne_of_gt (blk_lt (g := gb304) (o := .cells #[.string ((rd_T76 ((rd_T74 l0 a1).f3) x22_1).f0), .string ((rd_T76 ((rd_T74 l0 a1).f3) x22_1).f1)] 76 (0, 0)) (by (with_reducible repeat (first | apply d1 | apply d2 | apply d3)); refine blk_put (cs := #[.string ((rd_T76 ((rd_T74 l0 a1).f3) x22_1).f0), .string (⟨#[]⟩ : ByteArray)]) ?_ 1 _ rfl; (with_reducible repeat (first | apply d1 | apply d2 | apply d3)); refine blk_put (cs := #[.string (⟨#[]⟩ : ByteArray), .string (⟨#[]⟩ : ByteArray)]) ?_ 0 _ rfl; (with_reducible repeat (first | apply d1 | apply d2 | apply d3)); exact BK304.out)) : gb309 ≠ gb304)); clear HO_6; clear BK304; clear HB; have HO_6 := n0_; have BK304 := n1_; have HB := n2_; have BK309 := n3_; have GW309 := n4_; have GE309 := n5_; have NB304_309 := n6_; have NB309_304 := n7_; clear n0_ n1_ n2_ n3_ n4_ n5_ n6_ n7_; clear hb hbox hg; have hnb63 := NB309_304.out; have hnc63 := NB304_309.out; have hcz64_0 : w62.cell? ⟨gb309, 0, none⟩ = some (.string (⟨#[]⟩ : ByteArray)) := (blk_cell BK309.out 0).trans rfl; have hcz64_1 : w62.cell? ⟨gb309, 1, none⟩ = some (.string (⟨#[]⟩ : ByteArray)) := (blk_cell BK309.out 1).trans rfl; have hfz64_0 := blk_frozen BK309.out 0; have hfz64_1 := blk_frozen BK309.out 1) | ((with_reducible refine gate_callee (f := 60) rfl ?_); refine goesL_ (some 44) rfl rfl Tryd.func60 (by kernel_rfl) rfl #[.slice (some ad302) l0.length c0, .int .i64 a1, .string t306] rfl aG ?_; (with_reducible refine (impl_bound.calls k1 _ _ l0 a1 t306 t314 false _ ?side1 ?side2 A35.out).mono ?_); (case side1 => exact Kd.C_below HR0.out aE); (case side2 => exact HC0.out); rintro e w65 ⟨rfl, hb⟩; refine ⟨_, rfl, ?_⟩; have n0_ := Aside0.mk (Kd.R_below (by (with_reducible repeat (first | apply Kd.R_alloc | apply Kd.R_drewN | apply Kd.R_drew)); exact (Kd.R_mono (Kd.R_far (p := ⟨gb309, 1, none⟩) (Kd.R_far (p := ⟨gb309, 0, none⟩) (Kd.R_mono HO_6.out (fun k_ hk => (⟨hk, hk.2⟩ : _ ∧ k_ ≠ gb309))) (fun _ hk => hk.2) (.string (⟨#[]⟩ : ByteArray))) (fun _ hk => hk.2) (.string t307)) (fun _ h_ => h_.1))) hb); have n1_ := Aside0.mk (blk_below (g := gb304) (o := .cells #[.string ((rd_T76 ((rd_T74 l0 a1).f3) x22_1).f0), .string ((rd_T76 ((rd_T74 l0 a1).f3) x22_1).f1)] 76 (0, 0)) (by (with_reducible repeat (first | apply d1 | apply d2 | apply d3)); refine blk_far ?_ NB304_309.out _; (with_reducible repeat (first | apply d1 | apply d2 | apply d3)); refine blk_far ?_ NB304_309.out _; (with_reducible repeat (first | apply d1 | apply d2 | apply d3)); exact BK304.out) hb); have n2_ := Aside0.mk (blk_below (g := gb309) (o := .cells #[.string (⟨#[]⟩ : ByteArray), .string t307] 92 (0, 0)) (by (with_reducible repeat (first | apply d1 | apply d2 | apply d3)); refine blk_put (cs := #[.string (⟨#[]⟩ : ByteArray), .string (⟨#[]⟩ : ByteArray)]) ?_ 1 _ rfl; (with_reducible repeat (first | apply d1 | apply d2 | apply d3)); refine blk_put (cs := #[.string (⟨#[]⟩ : ByteArray), .string (⟨#[]⟩ : ByteArray)]) ?_ 0 _ rfl; (with_reducible repeat (first | apply d1 | apply d2 | apply d3)); exact BK309.out) hb); have n3_ := Aside0.mk (below_step aE hb); clear HO_6; clear BK304; clear BK309; clear HB; have HO_6 := n0_; have BK304 := n1_; have BK309 := n2_; have HB := n3_; clear n0_ n1_ n2_ n3_; (try clear hb); (try clear hb2); (try clear hk); (try clear hi)))
           go_ret2
           exact ⟨_, by first | rfl | (simp only [aX1, aX2]; rfl) | (simp [*] <;> rfl), by first | exact Kd.R_nil _ _ _ _ _ | exact Kd.N_nil _ _ _ _ _ | exact Kd.V_nil _ _ _ _ _ | exact Kd.Q_nil _ _ _ _ _ | exact Kd.S_nil _ _ _ _ _, aE⟩
       ·rw [if_neg c9] at H
        exact absurd H (by simp)
      ·rw [if_neg c8] at H
       exact absurd H (by simp)
     ·rw [if_neg c7] at H
      have c7b0 : decide (x22_1 < (((rd_T74 l0 a1).f3).length : Int)) = false := decide_eq_false c7
      clear c7
      simp only [Option.some.injEq, Prod.mk.injEq] at H
      obtain ⟨rfl, rfl⟩ := H
      go_wp2
      go_ret2
      exact ⟨_, by first | rfl | (simp only [aX1, aX2]; rfl) | (simp [*] <;> rfl), by (with_reducible repeat (first | apply Kd.R_alloc | apply Kd.R_drewN | apply Kd.R_drew)); exact HO_6.out, aB⟩
  ·rw [if_neg c4] at H
   exact absurd H (by simp)
 ·rw [if_neg c3] at H
  exact absurd H (by simp)

/-! ### impl_AttrNames: function 31 -/
def impl_AttrNames.f (k : Nat) (l0 : List (S74)) (a1 : Int) : Option ((List (S92)) × Bool) := (impl_has.f k l0 a1).bind fun t320 => (if t320 = true then ((impl_attrNames.f k l0 a1).bind fun bt321 => (some (bt321.1, bt321.2))) else (some (([] : List (S92)), false)))
set_option maxHeartbeats 8000000 in
set_option maxRecDepth 100000 in
theorem impl_AttrNames.calls (k : Nat) (A0 : Option Addr) (c0 : Nat) (l0 : List (S74)) (a1 : Int) (r1 : List (S92)) (r2 : Bool) (w : World) (hgl : GL w) (hr0 : Kd.C k74 w A0 l0.length l0) (hc0 : l0.length ≤ c0) (h : impl_AttrNames.f k l0 a1 = some (r1, r2)) :
  Calls Tryd.prog 31 #[.slice A0 l0.length c0, .int .i64 a1] w fun e w' => ∃ v0_ : Value, e = .returned (.tuple #[v0_, .bool r2]) ∧ Kd.R k92 92 w' w.heap.size (fun _ => True) v0_ r1 ∧ Below w.heap.size w w' := by
 have HGL := Aside0.mk hgl
 clear hgl
 have HR0 := Aside0.mk hr0
 have HC0 := Aside0.mk hc0
 clear hr0 hc0
 have HB := Aside0.mk (Below.refl w.heap.size w)
 have H : ((impl_has.f k l0 a1).bind fun t320 => (if t320 = true then ((impl_attrNames.f k l0 a1).bind fun bt321 => (some (bt321.1, bt321.2))) else (some (([] : List (S92)), false)))) = some (r1, r2) := h
 clear h
 replace H := Option.bind_eq_some_iff.mp H
 obtain ⟨t320, A30, H⟩ := H
 replace H : (if t320 = true then ((impl_attrNames.f k l0 a1).bind fun bt321 => (some (bt321.1, bt321.2))) else (some (([] : List (S92)), false))) = some (r1, r2) := H
 have A3 := Aside0.mk A30
 clear A30
 by_cases c4 : t320 = true
 ·subst c4
  have H1 : ((impl_attrNames.f k l0 a1).bind fun bt321 => (some (bt321.1, bt321.2))) = some (r1, r2) := by rw [if_pos rfl] at H; exact H
  clear H
  have H := H1
  clear H1
  replace H := Option.bind_eq_some_iff.mp H
  obtain ⟨⟨t321, t322⟩, A50, H⟩ := H
  replace H : (some (t321, t322)) = some (r1, r2) := H
  have A5 := Aside0.mk A50
  clear A50
  simp only [Option.some.injEq, Prod.mk.injEq] at H
  obtain ⟨rfl, rfl⟩ := H
  go_enter Tryd.func31, Tryd.ntmps31
  go_wp2_with (first | ((with_reducible refine gate_callee (f := 59) rfl ?_); refine goesL_ (some 8) rfl rfl Tryd.func59 (by kernel_rfl) rfl #[.slice A0 l0.length c0, .int .i64 a1] rfl aG ?_; (with_reducible refine (impl_has.calls k _ _ l0 a1 true _ ?side1 ?side2 ?side3 A3.out).mono ?_); (case side1 => exact GL.below HGL.out aB); (case side2 => repeat (first | exact HR0.out | (with_reducible refine Kd.C_alloc ?_ _) | (with_reducible refine Kd.C_drewN ?_ _) | (with_reducible refine Kd.C_drew ?_))); (case side3 => exact HC0.out); rintro e w6 ⟨rfl, hb⟩; refine ⟨_, rfl, ?_⟩; have n0_ := Aside0.mk (below_step aB hb); clear HB; have HB := n0_; clear n0_; (try clear hb); (try clear hb2); (try clear hk); (try clear hi)) | ((with_reducible refine gate_callee (f := 68) rfl ?_); refine goesL_ (some 12) rfl rfl Tryd.func68 (by kernel_rfl) rfl #[.slice A0 l0.length c0, .int .i64 a1] rfl aG ?_; (with_reducible refine (impl_attrNames.calls k _ _ l0 a1 t321 t322 _ ?side1 ?side2 A5.out).mono ?_); (case side1 => repeat (first | exact (Kd.C_below HR0.out HB.out) | (with_reducible refine Kd.C_alloc ?_ _) | (with_reducible refine Kd.C_drewN ?_ _) | (with_reducible refine Kd.C_drew ?_))); (case side2 => exact HC0.out); rintro e w7 ⟨v323, rfl, ho0, hb⟩; refine ⟨_, rfl, ?_⟩; have n0_ := Aside0.mk (Kd.R_lower ho0 (below_size aB)); have n1_ := Aside0.mk (below_step aB hb); clear HB; have HO324 := n0_; have HB := n1_; clear n0_ n1_; (try clear hb); (try clear hb2); (try clear hk); (try clear hi); (try clear ho0)))
  go_ret2
  exact ⟨_, by first | rfl | (simp [*] <;> rfl), by (with_reducible repeat (first | apply Kd.R_alloc | apply Kd.R_drewN | apply Kd.R_drew)); exact HO324.out, aB⟩
 ·replace c4 := Bool.eq_false_iff.mpr c4
  subst c4
  have H1 : (some (([] : List (S92)), false)) = some (r1, r2) := by rw [if_neg (show ¬ (false = true) by decide)] at H; exact H
  clear H
  have H := H1
  clear H1
  simp only [Option.some.injEq, Prod.mk.injEq] at H
  obtain ⟨rfl, rfl⟩ := H
  go_enter Tryd.func31, Tryd.ntmps31
  go_wp2_with (first | ((with_reducible refine gate_callee (f := 59) rfl ?_); refine goesL_ (some 8) rfl rfl Tryd.func59 (by kernel_rfl) rfl #[.slice A0 l0.length c0, .int .i64 a1] rfl aG ?_; (with_reducible refine (impl_has.calls k _ _ l0 a1 false _ ?side1 ?side2 ?side3 A3.out).mono ?_); (case side1 => exact GL.below HGL.out aB); (case side2 => repeat (first | exact HR0.out | (with_reducible refine Kd.C_alloc ?_ _) | (with_reducible refine Kd.C_drewN ?_ _) | (with_reducible refine Kd.C_drew ?_))); (case side3 => exact HC0.out); rintro e w8 ⟨rfl, hb⟩; refine ⟨_, rfl, ?_⟩; have n0_ := Aside0.mk (below_step aB hb); clear HB; have HB := n0_; clear n0_; (try clear hb); (try clear hb2); (try clear hk); (try clear hi)))
  go_ret2
  exact ⟨_, by first | rfl | (simp [*] <;> rfl), by first | exact Kd.R_nil _ _ _ _ _ | exact Kd.N_nil _ _ _ _ _ | exact Kd.V_nil _ _ _ _ _ | exact Kd.Q_nil _ _ _ _ _ | exact Kd.S_nil _ _ _ _ _, aB⟩

/-! ### laws_eqQName: function 69 -/
def laws_eqQName.f (a0_0 : ByteArray) (a0_1 : ByteArray) (a1_0 : ByteArray) (a1_1 : ByteArray) : Option (Bool) := if a0_0.toList = a1_0.toList then (if a0_1.toList = a1_1.toList then (some true) else (some false)) else (some false)
set_option maxHeartbeats 8000000 in
set_option maxRecDepth 100000 in
theorem laws_eqQName.calls (a0_0 : ByteArray) (a0_1 : ByteArray) (a1_0 : ByteArray) (a1_1 : ByteArray) (r : Bool) (w : World) (h : laws_eqQName.f a0_0 a0_1 a1_0 a1_1 = some r) :
  Calls Tryd.prog 69 #[.agg #[.string a0_0, .string a0_1], .agg #[.string a1_0, .string a1_1]] w fun e w' => e = .returned (.bool r) ∧ Below w.heap.size w w' := by
 have hu92 := Tryd.underlying92
 have HB := Aside0.mk (Below.refl w.heap.size w)
 have H : (if a0_0.toList = a1_0.toList then (if a0_1.toList = a1_1.toList then (some true) else (some false)) else (some false)) = some r := h
 clear h
 by_cases c3 : a0_0.toList = a1_0.toList
 ·rw [if_pos c3] at H
  have c3b0 : (a0_0.toList == a1_0.toList) = true := beq_iff_eq.mpr c3
  have c3b1 : (a0_0.toList != a1_0.toList) = false := bne_eq_false_iff_eq.mpr c3
  clear c3
  by_cases c4 : a0_1.toList = a1_1.toList
  ·rw [if_pos c4] at H
   have c4b0 : (a0_1.toList == a1_1.toList) = true := beq_iff_eq.mpr c4
   have c4b1 : (a0_1.toList != a1_1.toList) = false := bne_eq_false_iff_eq.mpr c4
   clear c4
   obtain rfl := Option.some.inj H
   go_enter Tryd.func69, Tryd.ntmps69
   go_wp2_with (first | ((with_reducible refine gate_dst (N := 2) rfl ?_); refine box_event ?hg (N := 2) ?hd (cs := #[.string a0_0, .string a0_1]) (t := 92) ?hr ?_; (case hd => rfl); (case hg => rfl); (case hr => first | (go_simp; done) | (go_simp; rfl)); intro gb325 hg w5 hbox hb; have n0_ := Aside0.mk (below_step aB hb); have n1_ := Aside0.mk (hbox); have n2_ := Aside0.mk ((by rw [hg]; exact (below_size aB) : w.heap.size ≤ gb325)); have n3_ := Aside0.mk ((by rw [hg]; exact (below_size aB) : w.heap.size ≤ gb325)); clear HB; have HB := n0_; have BK325 := n1_; have GW325 := n2_; have GE325 := n3_; clear n0_ n1_ n2_ n3_; clear hb hbox hg) | ((with_reducible refine gate_dst (N := 3) rfl ?_); refine box_event ?hg (N := 3) ?hd (cs := #[.string a1_0, .string a1_1]) (t := 92) ?hr ?_; (case hd => rfl); (case hg => rfl); (case hr => first | (go_simp; done) | (go_simp; rfl)); intro gb326 hg w6 hbox hb; have n0_ := Aside0.mk (blk_below (g := gb325) (o := .cells #[.string a0_0, .string a0_1] 92 (0, 0)) (aP BK325.out) hb); have n1_ := Aside0.mk (below_step aE hb); have n2_ := Aside0.mk (hbox); have n3_ := Aside0.mk ((by rw [hg]; exact (below_size aE) : w.heap.size ≤ gb326)); have n4_ := Aside0.mk ((by rw [hg]; exact (below_size aE) : w.heap.size ≤ gb326)); have n5_ := Aside0.mk ((by rw [hg]; exact Nat.ne_of_lt (blk_lt (g := gb325) (o := .cells #[.string a0_0, .string a0_1] 92 (0, 0)) (aP BK325.out)) : gb325 ≠ gb326)); have n6_ := Aside0.mk ((by rw [hg]; exact Nat.ne_of_gt (blk_lt (g := gb325) (o := .cells #[.string a0_0, .string a0_1] 92 (0, 0)) (aP BK325.out)) : gb326 ≠ gb325)); clear BK325; clear HB; have BK325 := n0_; have HB := n1_; have BK326 := n2_; have GW326 := n3_; have GE326 := n4_; have NB325_326 := n5_; have NB326_325 := n6_; clear n0_ n1_ n2_ n3_ n4_ n5_ n6_; clear hb hbox hg; have hnb7 := NB325_326.out; have hnc7 := NB326_325.out; have hcz8_0 : w6.cell? ⟨gb325, 0, none⟩ = some (.string a0_0) := (blk_cell BK325.out 0).trans rfl; have hcz8_1 : w6.cell? ⟨gb325, 1, none⟩ = some (.string a0_1) := (blk_cell BK325.out 1).trans rfl; have hfz8_0 := blk_frozen BK325.out 0; have hfz8_1 := blk_frozen BK325.out 1; have hcz9_0 : w6.cell? ⟨gb326, 0, none⟩ = some (.string a1_0) := (blk_cell BK326.out 0).trans rfl; have hcz9_1 : w6.cell? ⟨gb326, 1, none⟩ = some (.string a1_1) := (blk_cell BK326.out 1).trans rfl; have hfz9_0 := blk_frozen BK326.out 0; have hfz9_1 := blk_frozen BK326.out 1))
   go_ret
   exact ⟨aS, aE⟩
  ·rw [if_neg c4] at H
   have c4b0 : (a0_1.toList == a1_1.toList) = false := beq_eq_false_iff_ne.mpr c4
   have c4b1 : (a0_1.toList != a1_1.toList) = true := bne_iff_ne.mpr c4
   obtain rfl := Option.some.inj H
   go_enter Tryd.func69, Tryd.ntmps69
   go_wp2_with (first | ((with_reducible refine gate_dst (N := 2) rfl ?_); refine box_event ?hg (N := 2) ?hd (cs := #[.string a0_0, .string a0_1]) (t := 92) ?hr ?_; (case hd => rfl); (case hg => rfl); (case hr => first | (go_simp; done) | (go_simp; rfl)); intro gb325 hg w10 hbox hb; have n0_ := Aside0.mk (below_step aB hb); have n1_ := Aside0.mk (hbox); have n2_ := Aside0.mk ((by rw [hg]; exact (below_size aB) : w.heap.size ≤ gb325)); have n3_ := Aside0.mk ((by rw [hg]; exact (below_size aB) : w.heap.size ≤ gb325)); clear HB; have HB := n0_; have BK325 := n1_; have GW325 := n2_; have GE325 := n3_; clear n0_ n1_ n2_ n3_; clear hb hbox hg) | ((with_reducible refine gate_dst (N := 3) rfl ?_); refine box_event ?hg (N := 3) ?hd (cs := #[.string a1_0, .string a1_1]) (t := 92) ?hr ?_; (case hd => rfl); (case hg => rfl); (case hr => first | (go_simp; done) | (go_simp; rfl)); intro gb326 hg w11 hbox hb; have n0_ := Aside0.mk (blk_below (g := gb325) (o := .cells #[.string a0_0, .string a0_1] 92 (0, 0)) (aP BK325.out) hb); have n1_ := Aside0.mk (below_step aE hb); have n2_ := Aside0.mk (hbox); have n3_ := Aside0.mk ((by rw [hg]; exact (below_size aE) : w.heap.size ≤ gb326)); have n4_ := Aside0.mk ((by rw [hg]; exact (below_size aE) : w.heap.size ≤ gb326)); have n5_ := Aside0.mk ((by rw [hg]; exact Nat.ne_of_lt (blk_lt (g := gb325) (o := .cells #[.string a0_0, .string a0_1] 92 (0, 0)) (aP BK325.out)) : gb325 ≠ gb326)); have n6_ := Aside0.mk ((by rw [hg]; exact Nat.ne_of_gt (blk_lt (g := gb325) (o := .cells #[.string a0_0, .string a0_1] 92 (0, 0)) (aP BK325.out)) : gb326 ≠ gb325)); clear BK325; clear HB; have BK325 := n0_; have HB := n1_; have BK326 := n2_; have GW326 := n3_; have GE326 := n4_; have NB325_326 := n5_; have NB326_325 := n6_; clear n0_ n1_ n2_ n3_ n4_ n5_ n6_; clear hb hbox hg; have hnb12 := NB325_326.out; have hnc12 := NB326_325.out; have hcz13_0 : w11.cell? ⟨gb325, 0, none⟩ = some (.string a0_0) := (blk_cell BK325.out 0).trans rfl; have hcz13_1 : w11.cell? ⟨gb325, 1, none⟩ = some (.string a0_1) := (blk_cell BK325.out 1).trans rfl; have hfz13_0 := blk_frozen BK325.out 0; have hfz13_1 := blk_frozen BK325.out 1; have hcz14_0 : w11.cell? ⟨gb326, 0, none⟩ = some (.string a1_0) := (blk_cell BK326.out 0).trans rfl; have hcz14_1 : w11.cell? ⟨gb326, 1, none⟩ = some (.string a1_1) := (blk_cell BK326.out 1).trans rfl; have hfz14_0 := blk_frozen BK326.out 0; have hfz14_1 := blk_frozen BK326.out 1))
   go_ret
   exact ⟨aS, aE⟩
 ·rw [if_neg c3] at H
  have c3b0 : (a0_0.toList == a1_0.toList) = false := beq_eq_false_iff_ne.mpr c3
  have c3b1 : (a0_0.toList != a1_0.toList) = true := bne_iff_ne.mpr c3
  obtain rfl := Option.some.inj H
  go_enter Tryd.func69, Tryd.ntmps69
  go_wp2_with (first | ((with_reducible refine gate_dst (N := 2) rfl ?_); refine box_event ?hg (N := 2) ?hd (cs := #[.string a0_0, .string a0_1]) (t := 92) ?hr ?_; (case hd => rfl); (case hg => rfl); (case hr => first | (go_simp; done) | (go_simp; rfl)); intro gb325 hg w15 hbox hb; have n0_ := Aside0.mk (below_step aB hb); have n1_ := Aside0.mk (hbox); have n2_ := Aside0.mk ((by rw [hg]; exact (below_size aB) : w.heap.size ≤ gb325)); have n3_ := Aside0.mk ((by rw [hg]; exact (below_size aB) : w.heap.size ≤ gb325)); clear HB; have HB := n0_; have BK325 := n1_; have GW325 := n2_; have GE325 := n3_; clear n0_ n1_ n2_ n3_; clear hb hbox hg) | ((with_reducible refine gate_dst (N := 3) rfl ?_); refine box_event ?hg (N := 3) ?hd (cs := #[.string a1_0, .string a1_1]) (t := 92) ?hr ?_; (case hd => rfl); (case hg => rfl); (case hr => first | (go_simp; done) | (go_simp; rfl)); intro gb326 hg w16 hbox hb; have n0_ := Aside0.mk (blk_below (g := gb325) (o := .cells #[.string a0_0, .string a0_1] 92 (0, 0)) (aP BK325.out) hb); have n1_ := Aside0.mk (below_step aE hb); have n2_ := Aside0.mk (hbox); have n3_ := Aside0.mk ((by rw [hg]; exact (below_size aE) : w.heap.size ≤ gb326)); have n4_ := Aside0.mk ((by rw [hg]; exact (below_size aE) : w.heap.size ≤ gb326)); have n5_ := Aside0.mk ((by rw [hg]; exact Nat.ne_of_lt (blk_lt (g := gb325) (o := .cells #[.string a0_0, .string a0_1] 92 (0, 0)) (aP BK325.out)) : gb325 ≠ gb326)); have n6_ := Aside0.mk ((by rw [hg]; exact Nat.ne_of_gt (blk_lt (g := gb325) (o := .cells #[.string a0_0, .string a0_1] 92 (0, 0)) (aP BK325.out)) : gb326 ≠ gb325)); clear BK325; clear HB; have BK325 := n0_; have HB := n1_; have BK326 := n2_; have GW326 := n3_; have GE326 := n4_; have NB325_326 := n5_; have NB326_325 := n6_; clear n0_ n1_ n2_ n3_ n4_ n5_ n6_; clear hb hbox hg; have hnb17 := NB325_326.out; have hnc17 := NB326_325.out; have hcz18_0 : w16.cell? ⟨gb325, 0, none⟩ = some (.string a0_0) := (blk_cell BK325.out 0).trans rfl; have hcz18_1 : w16.cell? ⟨gb325, 1, none⟩ = some (.string a0_1) := (blk_cell BK325.out 1).trans rfl; have hfz18_0 := blk_frozen BK325.out 0; have hfz18_1 := blk_frozen BK325.out 1; have hcz19_0 : w16.cell? ⟨gb326, 0, none⟩ = some (.string a1_0) := (blk_cell BK326.out 0).trans rfl; have hcz19_1 : w16.cell? ⟨gb326, 1, none⟩ = some (.string a1_1) := (blk_cell BK326.out 1).trans rfl; have hfz19_0 := blk_frozen BK326.out 0; have hfz19_1 := blk_frozen BK326.out 1))
  go_ret
  exact ⟨aS, aE⟩

/-! ### laws_eqQNameS: function 32 -/
def laws_eqQNameS.l0 : Nat → List (S92) → List (S92) → Int → Option (Bool)
 | 0, _, _, _ => none
 | k + 1, x0, x1, x5 => if x5 < (x0.length : Int) then (if 0 ≤ x5 then (if x5 < (x1.length : Int) then ((laws_eqQName.f ((rd_T92 x0 x5).f0) ((rd_T92 x0 x5).f1) ((rd_T92 x1 x5).f0) ((rd_T92 x1 x5).f1)).bind fun t329 => (if t329 = true then (laws_eqQNameS.l0 k x0 x1 (wrap64 (x5 + 1))) else (some false))) else (none)) else (none)) else (some true)
def laws_eqQNameS.f (k : Nat) (l0 : List (S92)) (l1 : List (S92)) : Option (Bool) := if (l0.length : Int) = (l1.length : Int) then (laws_eqQNameS.l0 k l0 l1 0) else (some false)
def laws_eqQNameS.T6 : Bool × List (List Nat × List Nat) := (true, [([], []), ([], []), ([0, 1], [0, 1]), ([2], [2]), ([], []), ([], []), ([4, 5], [4, 5]), ([6], [6]), ([3, 7], [3, 7]), ([8], [8])])
def laws_eqQNameS.B6 : List Nat := [0, 0, 3, 7, 0, 0, 48, 112, 255, 511]
theorem laws_eqQNameS.tab6 : rtab .any (opsOf Tryd.f32 6) = laws_eqQNameS.T6 := by kernel_rfl
theorem laws_eqQNameS.bits6 : waitsOk laws_eqQNameS.T6.2 laws_eqQNameS.B6 = true := by kernel_rfl
set_option maxHeartbeats 8000000 in
set_option maxRecDepth 100000 in
theorem laws_eqQNameS.calls (k : Nat) (A0 : Option Addr) (c0 : Nat) (l0 : List (S92)) (A1 : Option Addr) (c1 : Nat) (l1 : List (S92)) (r : Bool) (w : World) (hr0 : Kd.C k92 w A0 l0.length l0) (hc0 : l0.length ≤ c0) (hr1 : Kd.C k92 w A1 l1.length l1) (hc1 : l1.length ≤ c1) (h : laws_eqQNameS.f k l0 l1 = some r) :
  Calls Tryd.prog 32 #[.slice A0 l0.length c0, .slice A1 l1.length c1] w fun e w' => e = .returned (.bool r) ∧ Below w.heap.size w w' := by
 have hu92 := Tryd.underlying92
 have HR0 := Aside0.mk hr0
 have HC0 := Aside0.mk hc0
 clear hr0 hc0
 have HR1 := Aside0.mk hr1
 have HC1 := Aside0.mk hc1
 clear hr1 hc1
 have HB := Aside0.mk (Below.refl w.heap.size w)
 have H : (if (l0.length : Int) = (l1.length : Int) then (laws_eqQNameS.l0 k l0 l1 0) else (some false)) = some r := h
 clear h
 by_cases c3 : (l0.length : Int) = (l1.length : Int)
 ·rw [if_pos c3] at H
  have c3b0 : ((l0.length : Int) == (l1.length : Int)) = true := beq_iff_eq.mpr c3
  have c3b1 : ((l0.length : Int) != (l1.length : Int)) = false := bne_eq_false_iff_eq.mpr c3
  have c3b2 : (l0.length == l1.length) = true := by first | simpa using c3 | (simp at c3 ⊢; omega)
  clear c3
  have H' := Aside0.mk H
  clear H
  go_enter Tryd.func32, Tryd.ntmps32
  go_wp2
  go_loopg [5] k (fun kq v5 w' => ∃ (x5_1 : Int), v5 = .int .i64 x5_1 ∧ Aside0 (laws_eqQNameS.l0 kq l0 l1 x5_1 = some r) ∧ Aside0 (kq ≤ k) ∧ Aside0 (Below w.heap.size w w'))
  case atStart => exact ⟨(0), aR, H', ⟨Nat.le_refl _⟩, ⟨aB⟩⟩
  case round =>
   clear H'
   try clear c1
   try clear p2
   try clear c3
   try clear c3b0
   try clear c3b1
   try clear c3b2
   obtain ⟨x5_1, rfl, HA, HK1, HB⟩ := hrel
   cases gk with
   | zero => exact absurd HA.out (by simp [laws_eqQNameS.l0])
   | succ k1 =>
    have H := HA.out
    clear HA
    simp only [laws_eqQNameS.l0] at H
    by_cases c4 : x5_1 < (l0.length : Int)
    ·rw [if_pos c4] at H
     have c4b0 : decide (x5_1 < (l0.length : Int)) = true := decide_eq_true c4
     clear c4
     by_cases c5 : 0 ≤ x5_1
     ·rw [if_pos c5] at H
      have c5b0 : decide (0 ≤ x5_1) = true := decide_eq_true c5
      clear c5
      by_cases c6 : x5_1 < (l1.length : Int)
      ·rw [if_pos c6] at H
       have c6b0 : decide (x5_1 < (l1.length : Int)) = true := decide_eq_true c6
       clear c6
       replace H := Option.bind_eq_some_iff.mp H
       obtain ⟨t329, A70, H⟩ := H
       replace H : (if t329 = true then (laws_eqQNameS.l0 k1 l0 l1 (wrap64 (x5_1 + 1))) else (some false)) = some r := H
       have A7 := Aside0.mk A70
       clear A70
       by_cases c8 : t329 = true
       ·subst c8
        have H1 : (laws_eqQNameS.l0 k1 l0 l1 (wrap64 (x5_1 + 1))) = some r := by rw [if_pos rfl] at H; exact H
        clear H
        have H := H1
        clear H1
        have H' := Aside0.mk H
        clear H
        try go_wp2
        have n0_ := Aside0.mk (below_drew1 HB.out)
        clear HB
        have HB := n0_
        clear n0_
        have p327 : 0 ≤ (x5_1 : Int) := aD
        have q327 : x5_1 < (l0.length : Int) := aD
        obtain ⟨ad327, e327, hx327_0, hx327_1⟩ := at_T92 HR0.out x5_1 p327 q327
        have hw327_1 := hx327_1
        have hw327_0 := hx327_0
        cases e327
        replace hx327_0 := (HB.out.cell (World.block_lt_of_cell? w _ hx327_0)).trans hx327_0
        replace hx327_1 := (HB.out.cell (World.block_lt_of_cell? w _ hx327_1)).trans hx327_1
        replace p327 := eq_true p327
        replace q327 := eq_true q327
        have p328 : 0 ≤ (x5_1 : Int) := aD
        have q328 : x5_1 < (l1.length : Int) := aD
        obtain ⟨ad328, e328, hx328_0, hx328_1⟩ := at_T92 HR1.out x5_1 p328 q328
        have hw328_1 := hx328_1
        have hw328_0 := hx328_0
        cases e328
        replace hx328_0 := (HB.out.cell (World.block_lt_of_cell? w _ hx328_0)).trans hx328_0
        replace hx328_1 := (HB.out.cell (World.block_lt_of_cell? w _ hx328_1)).trans hx328_1
        replace p328 := eq_true p328
        replace q328 := eq_true q328
        refine start_ (n := 10) (S := fun w' => w'.cell? (ad327.add ((x5_1).toNat * 2)) = some (.string ((rd_T92 l0 x5_1).f0)) ∧ w'.cell? ⟨(ad327.add ((x5_1).toNat * 2)).block, (ad327.add ((x5_1).toNat * 2)).off + 1, none⟩ = some (.string ((rd_T92 l0 x5_1).f1)) ∧ w'.cell? (ad328.add ((x5_1).toNat * 2)) = some (.string ((rd_T92 l1 x5_1).f0)) ∧ w'.cell? ⟨(ad328.add ((x5_1).toNat * 2)).block, (ad328.add ((x5_1).toNat * 2)).off + 1, none⟩ = some (.string ((rd_T92 l1 x5_1).f1))) (ds := []) #[false, false, false, false, false, false, false, false, false, false] (by kernel_rfl) rfl rfl ⟨((HB.out.cell (World.block_lt_of_cell? w _ hw327_0)).trans hw327_0), ((HB.out.cell (World.block_lt_of_cell? w _ hw327_1)).trans hw327_1), ((HB.out.cell (World.block_lt_of_cell? w _ hw328_0)).trans hw328_0), ((HB.out.cell (World.block_lt_of_cell? w _ hw328_1)).trans hw328_1)⟩ (fun hHeld => ?_); refine with_tabW laws_eqQNameS.tab6 laws_eqQNameS.bits6 (fun HT_ HW_ => ?_)
        generalize wr.drew = w9 at HB hx327_0 hx327_1 hx328_0 hx328_1 hHeld ⊢
        refine pure_ (i := 0) (N := some 17) (v := ?_) (a' := ?_) #[true, false, false, false, false, false, false, false, false, false] rfl rfl (any_of HT_.out (by kernel_rfl)) (fun _ _ _ h => h) (Or.inl ⟨by rfl, ?_⟩) ?_ ?_
        rotate_left
        ·intro w'
         go_simp
         with_reducible rfl
        rotate_left
        ·simp only [Act.put, List.setIfInBounds_toArray, List.set_cons_zero, List.set_cons_succ, i64_w, i32_w]
         rfl
        refine pure_ (i := 1) (N := some 18) (v := ?_) (a' := ?_) #[true, true, false, false, false, false, false, false, false, false] rfl rfl (any_of HT_.out (by kernel_rfl)) (fun _ _ _ h => h) (Or.inl ⟨by rfl, ?_⟩) ?_ ?_
        rotate_left
        ·intro w'
         go_simp
         with_reducible rfl
        rotate_left
        ·simp only [Act.put, List.setIfInBounds_toArray, List.set_cons_zero, List.set_cons_succ, i64_w, i32_w]
         rfl
        refine pure_ (i := 2) (N := some 19) (v := ?_) (a' := ?_) #[true, true, true, false, false, false, false, false, false, false] rfl rfl (any_of HT_.out (by kernel_rfl)) (fun _ _ _ h => h) (Or.inl ⟨by rfl, ?_⟩) ?_ ?_
        rotate_left
        ·intro w'
         go_simp
         with_reducible rfl
        rotate_left
        ·simp only [Act.put, List.setIfInBounds_toArray, List.set_cons_zero, List.set_cons_succ, i64_w, i32_w]
         rfl
        refine pure_ (i := 4) (N := some 21) (v := ?_) (a' := ?_) #[true, true, true, false, true, false, false, false, false, false] rfl rfl (any_of HT_.out (by kernel_rfl)) (fun _ _ _ h => h) (Or.inl ⟨by rfl, ?_⟩) ?_ ?_
        rotate_left
        ·intro w'
         go_simp
         with_reducible rfl
        rotate_left
        ·simp only [Act.put, List.setIfInBounds_toArray, List.set_cons_zero, List.set_cons_succ, i64_w, i32_w]
         rfl
        refine pure_ (i := 5) (N := some 22) (v := ?_) (a' := ?_) #[true, true, true, false, true, true, false, false, false, false] rfl rfl (any_of HT_.out (by kernel_rfl)) (fun _ _ _ h => h) (Or.inl ⟨by rfl, ?_⟩) ?_ ?_
        rotate_left
        ·intro w'
         go_simp
         with_reducible rfl
        rotate_left
        ·simp only [Act.put, List.setIfInBounds_toArray, List.set_cons_zero, List.set_cons_succ, i64_w, i32_w]
         rfl
        refine pure_ (i := 6) (N := some 23) (v := ?_) (a' := ?_) #[true, true, true, false, true, true, true, false, false, false] rfl rfl (any_of HT_.out (by kernel_rfl)) (fun _ _ _ h => h) (Or.inl ⟨by rfl, ?_⟩) ?_ ?_
        rotate_left
        ·intro w'
         go_simp
         with_reducible rfl
        rotate_left
        ·simp only [Act.put, List.setIfInBounds_toArray, List.set_cons_zero, List.set_cons_succ, i64_w, i32_w]
         rfl
        refine take_ (i := 3) (N := some 20) (v := ?_) (a' := ?_) #[true, true, true, true, true, true, true, false, false, false] rfl rfl (take_ofW HT_.out HW_.out (by kernel_rfl)) (fun _ _ _ h => h) (Or.inl ⟨by rfl, ?_⟩) hHeld ?_ ?_
        rotate_left
        ·rintro w' ⟨s0, s1, s2, s3⟩
         go_simp
         with_reducible rfl
        rotate_left
        ·simp only [Act.put, List.setIfInBounds_toArray, List.set_cons_zero, List.set_cons_succ, i64_w, i32_w]
         rfl
        refine take_ (i := 7) (N := some 24) (v := ?_) (a' := ?_) #[true, true, true, true, true, true, true, true, false, false] rfl rfl (take_ofW HT_.out HW_.out (by kernel_rfl)) (fun _ _ _ h => h) (Or.inl ⟨by rfl, ?_⟩) hHeld ?_ ?_
        rotate_left
        ·rintro w' ⟨s0, s1, s2, s3⟩
         go_simp
         with_reducible rfl
        rotate_left
        ·simp only [Act.put, List.setIfInBounds_toArray, List.set_cons_zero, List.set_cons_succ, i64_w, i32_w]
         rfl
        refine one_ (i := 8) (N := some 25) #[true, true, true, true, true, true, true, true, true, false] rfl rfl (one_of HT_.out (by kernel_rfl)) (by decide) (fun K hK => ?_)
        refine goes_ Tryd.func69 (by kernel_rfl) rfl #[.agg #[.string ((rd_T92 l0 x5_1).f0), .string ((rd_T92 l0 x5_1).f1)], .agg #[.string ((rd_T92 l1 x5_1).f0), .string ((rd_T92 l1 x5_1).f1)]] (by rfl) rfl rfl aG ?_
        with_reducible refine (laws_eqQName.calls ((rd_T92 l0 x5_1).f0) ((rd_T92 l0 x5_1).f1) ((rd_T92 l1 x5_1).f0) ((rd_T92 l1 x5_1).f1) true _ A7.out).mono ?_
        rintro e w10 ⟨rfl, hb⟩
        refine ⟨_, rfl, ?_⟩
        have n0_ := Aside0.mk (below_step aB hb)
        clear HB
        have HB := n0_
        clear n0_
        (try clear hb)
        (try clear hb2)
        (try clear hk)
        (try clear hi)
        refine hK.out _ _ ⟨((HB.out.cell (World.block_lt_of_cell? w _ hw327_0)).trans hw327_0), ((HB.out.cell (World.block_lt_of_cell? w _ hw327_1)).trans hw327_1), ((HB.out.cell (World.block_lt_of_cell? w _ hw328_0)).trans hw328_0), ((HB.out.cell (World.block_lt_of_cell? w _ hw328_1)).trans hw328_1)⟩ (fun hHeld => ?_)
        clear hK K
        refine norm_ (a' := ?_) ?_ ?_
        rotate_left
        ·show Act.put _ (some 25) _ = _
         simp only [Act.put, List.setIfInBounds_toArray, List.set_cons_zero, List.set_cons_succ, i64_w, i32_w]
         rfl
        refine pure_ (i := 9) (N := some 26) (v := ?_) (a' := ?_) #[true, true, true, true, true, true, true, true, true, true] rfl rfl (any_of HT_.out (by kernel_rfl)) (fun _ _ _ h => h) (Or.inl ⟨by rfl, ?_⟩) ?_ ?_
        rotate_left
        ·intro w'
         go_simp
         with_reducible rfl
        rotate_left
        ·simp only [Act.put, List.setIfInBounds_toArray, List.set_cons_zero, List.set_cons_succ, i64_w, i32_w]
         rfl
        refine done_ (done_of HT_.out (by kernel_rfl)) ?_
        try go_wp2
        go_roundg k1
        case measure => have := HK1.out; omega
        case rel => exact ⟨(wrap64 (x5_1 + 1)), aR, H', ⟨by have := HK1.out; omega⟩, ⟨aB⟩⟩
       ·replace c8 := Bool.eq_false_iff.mpr c8
        subst c8
        have H1 : (some false) = some r := by rw [if_neg (show ¬ (false = true) by decide)] at H; exact H
        clear H
        have H := H1
        clear H1
        obtain rfl := Option.some.inj H
        try go_wp2
        have n0_ := Aside0.mk (below_drew1 HB.out)
        clear HB
        have HB := n0_
        clear n0_
        have p327 : 0 ≤ (x5_1 : Int) := aD
        have q327 : x5_1 < (l0.length : Int) := aD
        obtain ⟨ad327, e327, hx327_0, hx327_1⟩ := at_T92 HR0.out x5_1 p327 q327
        have hw327_1 := hx327_1
        have hw327_0 := hx327_0
        cases e327
        replace hx327_0 := (HB.out.cell (World.block_lt_of_cell? w _ hx327_0)).trans hx327_0
        replace hx327_1 := (HB.out.cell (World.block_lt_of_cell? w _ hx327_1)).trans hx327_1
        replace p327 := eq_true p327
        replace q327 := eq_true q327
        have p328 : 0 ≤ (x5_1 : Int) := aD
        have q328 : x5_1 < (l1.length : Int) := aD
        obtain ⟨ad328, e328, hx328_0, hx328_1⟩ := at_T92 HR1.out x5_1 p328 q328
        have hw328_1 := hx328_1
        have hw328_0 := hx328_0
        cases e328
        replace hx328_0 := (HB.out.cell (World.block_lt_of_cell? w _ hx328_0)).trans hx328_0
        replace hx328_1 := (HB.out.cell (World.block_lt_of_cell? w _ hx328_1)).trans hx328_1
        replace p328 := eq_true p328
        replace q328 := eq_true q328
        refine start_ (n := 10) (S := fun w' => w'.cell? (ad327.add ((x5_1).toNat * 2)) = some (.string ((rd_T92 l0 x5_1).f0)) ∧ w'.cell? ⟨(ad327.add ((x5_1).toNat * 2)).block, (ad327.add ((x5_1).toNat * 2)).off + 1, none⟩ = some (.string ((rd_T92 l0 x5_1).f1)) ∧ w'.cell? (ad328.add ((x5_1).toNat * 2)) = some (.string ((rd_T92 l1 x5_1).f0)) ∧ w'.cell? ⟨(ad328.add ((x5_1).toNat * 2)).block, (ad328.add ((x5_1).toNat * 2)).off + 1, none⟩ = some (.string ((rd_T92 l1 x5_1).f1))) (ds := []) #[false, false, false, false, false, false, false, false, false, false] (by kernel_rfl) rfl rfl ⟨((HB.out.cell (World.block_lt_of_cell? w _ hw327_0)).trans hw327_0), ((HB.out.cell (World.block_lt_of_cell? w _ hw327_1)).trans hw327_1), ((HB.out.cell (World.block_lt_of_cell? w _ hw328_0)).trans hw328_0), ((HB.out.cell (World.block_lt_of_cell? w _ hw328_1)).trans hw328_1)⟩ (fun hHeld => ?_); refine with_tabW laws_eqQNameS.tab6 laws_eqQNameS.bits6 (fun HT_ HW_ => ?_)
        generalize wr.drew = w11 at HB hx327_0 hx327_1 hx328_0 hx328_1 hHeld ⊢
        refine pure_ (i := 0) (N := some 17) (v := ?_) (a' := ?_) #[true, false, false, false, false, false, false, false, false, false] rfl rfl (any_of HT_.out (by kernel_rfl)) (fun _ _ _ h => h) (Or.inl ⟨by rfl, ?_⟩) ?_ ?_
        rotate_left
        ·intro w'
         go_simp
         with_reducible rfl
        rotate_left
        ·simp only [Act.put, List.setIfInBounds_toArray, List.set_cons_zero, List.set_cons_succ, i64_w, i32_w]
         rfl
        refine pure_ (i := 1) (N := some 18) (v := ?_) (a' := ?_) #[true, true, false, false, false, false, false, false, false, false] rfl rfl (any_of HT_.out (by kernel_rfl)) (fun _ _ _ h => h) (Or.inl ⟨by rfl, ?_⟩) ?_ ?_
        rotate_left
        ·intro w'
         go_simp
         with_reducible rfl
        rotate_left
        ·simp only [Act.put, List.setIfInBounds_toArray, List.set_cons_zero, List.set_cons_succ, i64_w, i32_w]
         rfl
        refine pure_ (i := 2) (N := some 19) (v := ?_) (a' := ?_) #[true, true, true, false, false, false, false, false, false, false] rfl rfl (any_of HT_.out (by kernel_rfl)) (fun _ _ _ h => h) (Or.inl ⟨by rfl, ?_⟩) ?_ ?_
        rotate_left
        ·intro w'
         go_simp
         with_reducible rfl
        rotate_left
        ·simp only [Act.put, List.setIfInBounds_toArray, List.set_cons_zero, List.set_cons_succ, i64_w, i32_w]
         rfl
        refine pure_ (i := 4) (N := some 21) (v := ?_) (a' := ?_) #[true, true, true, false, true, false, false, false, false, false] rfl rfl (any_of HT_.out (by kernel_rfl)) (fun _ _ _ h => h) (Or.inl ⟨by rfl, ?_⟩) ?_ ?_
        rotate_left
        ·intro w'
         go_simp
         with_reducible rfl
        rotate_left
        ·simp only [Act.put, List.setIfInBounds_toArray, List.set_cons_zero, List.set_cons_succ, i64_w, i32_w]
         rfl
        refine pure_ (i := 5) (N := some 22) (v := ?_) (a' := ?_) #[true, true, true, false, true, true, false, false, false, false] rfl rfl (any_of HT_.out (by kernel_rfl)) (fun _ _ _ h => h) (Or.inl ⟨by rfl, ?_⟩) ?_ ?_
        rotate_left
        ·intro w'
         go_simp
         with_reducible rfl
        rotate_left
        ·simp only [Act.put, List.setIfInBounds_toArray, List.set_cons_zero, List.set_cons_succ, i64_w, i32_w]
         rfl
        refine pure_ (i := 6) (N := some 23) (v := ?_) (a' := ?_) #[true, true, true, false, true, true, true, false, false, false] rfl rfl (any_of HT_.out (by kernel_rfl)) (fun _ _ _ h => h) (Or.inl ⟨by rfl, ?_⟩) ?_ ?_
        rotate_left
        ·intro w'
         go_simp
         with_reducible rfl
        rotate_left
        ·simp only [Act.put, List.setIfInBounds_toArray, List.set_cons_zero, List.set_cons_succ, i64_w, i32_w]
         rfl
        refine take_ (i := 3) (N := some 20) (v := ?_) (a' := ?_) #[true, true, true, true, true, true, true, false, false, false] rfl rfl (take_ofW HT_.out HW_.out (by kernel_rfl)) (fun _ _ _ h => h) (Or.inl ⟨by rfl, ?_⟩) hHeld ?_ ?_
        rotate_left
        ·rintro w' ⟨s0, s1, s2, s3⟩
         go_simp
         with_reducible rfl
        rotate_left
        ·simp only [Act.put, List.setIfInBounds_toArray, List.set_cons_zero, List.set_cons_succ, i64_w, i32_w]
         rfl
        refine take_ (i := 7) (N := some 24) (v := ?_) (a' := ?_) #[true, true, true, true, true, true, true, true, false, false] rfl rfl (take_ofW HT_.out HW_.out (by kernel_rfl)) (fun _ _ _ h => h) (Or.inl ⟨by rfl, ?_⟩) hHeld ?_ ?_
        rotate_left
        ·rintro w' ⟨s0, s1, s2, s3⟩
         go_simp
         with_reducible rfl
        rotate_left
        ·simp only [Act.put, List.setIfInBounds_toArray, List.set_cons_zero, List.set_cons_succ, i64_w, i32_w]
         rfl
        refine one_ (i := 8) (N := some 25) #[true, true, true, true, true, true, true, true, true, false] rfl rfl (one_of HT_.out (by kernel_rfl)) (by decide) (fun K hK => ?_)
        refine goes_ Tryd.func69 (by kernel_rfl) rfl #[.agg #[.string ((rd_T92 l0 x5_1).f0), .string ((rd_T92 l0 x5_1).f1)], .agg #[.string ((rd_T92 l1 x5_1).f0), .string ((rd_T92 l1 x5_1).f1)]] (by rfl) rfl rfl aG ?_
        with_reducible refine (laws_eqQName.calls ((rd_T92 l0 x5_1).f0) ((rd_T92 l0 x5_1).f1) ((rd_T92 l1 x5_1).f0) ((rd_T92 l1 x5_1).f1) false _ A7.out).mono ?_
        rintro e w12 ⟨rfl, hb⟩
        refine ⟨_, rfl, ?_⟩
        have n0_ := Aside0.mk (below_step aB hb)
        clear HB
        have HB := n0_
        clear n0_
        (try clear hb)
        (try clear hb2)
        (try clear hk)
        (try clear hi)
        refine hK.out _ _ ⟨((HB.out.cell (World.block_lt_of_cell? w _ hw327_0)).trans hw327_0), ((HB.out.cell (World.block_lt_of_cell? w _ hw327_1)).trans hw327_1), ((HB.out.cell (World.block_lt_of_cell? w _ hw328_0)).trans hw328_0), ((HB.out.cell (World.block_lt_of_cell? w _ hw328_1)).trans hw328_1)⟩ (fun hHeld => ?_)
        clear hK K
        refine norm_ (a' := ?_) ?_ ?_
        rotate_left
        ·show Act.put _ (some 25) _ = _
         simp only [Act.put, List.setIfInBounds_toArray, List.set_cons_zero, List.set_cons_succ, i64_w, i32_w]
         rfl
        refine pure_ (i := 9) (N := some 26) (v := ?_) (a' := ?_) #[true, true, true, true, true, true, true, true, true, true] rfl rfl (any_of HT_.out (by kernel_rfl)) (fun _ _ _ h => h) (Or.inl ⟨by rfl, ?_⟩) ?_ ?_
        rotate_left
        ·intro w'
         go_simp
         with_reducible rfl
        rotate_left
        ·simp only [Act.put, List.setIfInBounds_toArray, List.set_cons_zero, List.set_cons_succ, i64_w, i32_w]
         rfl
        refine done_ (done_of HT_.out (by kernel_rfl)) ?_
        try go_wp2
        go_ret
        exact ⟨aS, aB⟩
      ·rw [if_neg c6] at H
       exact absurd H (by simp)
     ·rw [if_neg c5] at H
      exact absurd H (by simp)
    ·rw [if_neg c4] at H
     have c4b0 : decide (x5_1 < (l0.length : Int)) = false := decide_eq_false c4
     clear c4
     obtain rfl := Option.some.inj H
     go_wp2
     go_ret
     exact ⟨aS, aB⟩
 ·rw [if_neg c3] at H
  have c3b0 : ((l0.length : Int) == (l1.length : Int)) = false := beq_eq_false_iff_ne.mpr c3
  have c3b1 : ((l0.length : Int) != (l1.length : Int)) = true := bne_iff_ne.mpr c3
  have c3b2 : (l0.length == l1.length) = false := by first | simpa using c3 | (simp at c3 ⊢; omega)
  obtain rfl := Option.some.inj H
  go_enter Tryd.func32, Tryd.ntmps32
  go_wp2
  go_ret
  exact ⟨aS, aB⟩

end Go.Proofs.YtbhklkpjjpkblaaDoor.PJ
