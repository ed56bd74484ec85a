-- Printed by this session's pdrive.py over the kit's printer.
import Derived.Test.YtdfopjmokbcnlaaDoorPRx0
import Derived.Test.YtdfopjmokbcnlaaDoorPRx1
namespace Go.Proofs.YtdfopjmokbcnlaaDoor.PR
open Go.RowKit Go.Proofs.YtdfopjmokbcnlaaDoorW.PrintWords Go.Proofs.YtdfopjmokbcnlaaDoorW.PrintLast Go.Proofs.YtdfopjmokbcnlaaDoorW.PrintMore Go.Proofs.YtdfopjmokbcnlaaDoorW.WordsB
attribute [local go_sem] max2_int min2_int max_two min_two max_three min_three max_four min_four   -- for this text's walks alone
set_option linter.unusedVariables false
set_option linter.unusedSimpArgs false

/-! ### spec_ReadDate: function 5 -/
mutual
def spec_ReadDate.j0 : Nat → ByteArray → Bool → Option (Int × Int × Int × Int × Int × Int × Bool × Int × Bool)
 | 0, _, _ => none
 | k + 1, x0, x35 => if x35 = true then (some (0, 0, 0, 0, 0, 0, false, 0, false)) else ((spec_l5Part.f k x0 0 4).bind fun t116 => ((spec_l5Part.f k x0 5 2).bind fun t117 => ((spec_l5Part.f k x0 8 2).bind fun t118 => ((spec_l5Part.f k x0 11 2).bind fun t119 => ((spec_l5Part.f k x0 14 2).bind fun t120 => ((spec_l5Part.f k x0 17 2).bind fun t121 => (if 19 ≤ (x0.size : Int) then (if (x0.extract 19 x0.size).toList = ([90] : List UInt8) then ((spec_DateOk.f k t116 t117 t118 t119 t120 t121 true 0).bind fun t123 => (if t123 = true then (some (t116, t117, t118, t119, t120, t121, true, 0, true)) else (some (0, 0, 0, 0, 0, 0, false, 0, false)))) else (if (x0.extract 19 x0.size).toList = ([] : List UInt8) then ((spec_DateOk.f k t116 t117 t118 t119 t120 t121 false 0).bind fun t124 => (if t124 = true then (some (t116, t117, t118, t119, t120, t121, false, 0, true)) else (some (0, 0, 0, 0, 0, 0, false, 0, false)))) else ((spec_l5Part.f k (x0.extract 19 x0.size) 1 2).bind fun t125 => ((spec_l5Part.f k (x0.extract 19 x0.size) 4 2).bind fun t126 => (if ((x0.extract 19 x0.size).size : Int) = 6 then (if 0 < ((x0.extract 19 x0.size).size : Int) then (if (bt (x0.extract 19 x0.size) 0) = 43 then (if 3 < ((x0.extract 19 x0.size).size : Int) then (if (bt (x0.extract 19 x0.size) 3) = 58 then ((spec_l1In.f t125 0 14).bind fun t127 => (if t127 = true then ((spec_l1In.f t126 0 59).bind fun t128 => (spec_ReadDate.j1 k (x0.extract 19 x0.size) t125 t126 (!t128) t116 t117 t118 t119 t120 t121 false 0)) else (spec_ReadDate.j1 k (x0.extract 19 x0.size) t125 t126 true t116 t117 t118 t119 t120 t121 false 0))) else (spec_ReadDate.j1 k (x0.extract 19 x0.size) t125 t126 true t116 t117 t118 t119 t120 t121 false 0)) else (none)) else (if (bt (x0.extract 19 x0.size) 0) = 45 then (if 3 < ((x0.extract 19 x0.size).size : Int) then (if (bt (x0.extract 19 x0.size) 3) = 58 then ((spec_l1In.f t125 0 14).bind fun t129 => (if t129 = true then ((spec_l1In.f t126 0 59).bind fun t130 => (spec_ReadDate.j1 k (x0.extract 19 x0.size) t125 t126 (!t130) t116 t117 t118 t119 t120 t121 false 0)) else (spec_ReadDate.j1 k (x0.extract 19 x0.size) t125 t126 true t116 t117 t118 t119 t120 t121 false 0))) else (spec_ReadDate.j1 k (x0.extract 19 x0.size) t125 t126 true t116 t117 t118 t119 t120 t121 false 0)) else (none)) else (spec_ReadDate.j1 k (x0.extract 19 x0.size) t125 t126 true t116 t117 t118 t119 t120 t121 false 0))) else (none)) else (spec_ReadDate.j1 k (x0.extract 19 x0.size) t125 t126 true t116 t117 t118 t119 t120 t121 false 0)))))) else (none))))))))
def spec_ReadDate.j1 : Nat → ByteArray → Int → Int → Bool → Int → Int → Int → Int → Int → Int → Bool → Int → Option (Int × Int × Int × Int × Int × Int × Bool × Int × Bool)
 | 0, _, _, _, _, _, _, _, _, _, _, _, _ => none
 | k + 1, x5, x6, x7, x90, x123000, x123001, x123002, x123003, x123004, x123005, x123006, x123007 => if x90 = true then (some (0, 0, 0, 0, 0, 0, false, 0, false)) else (if 0 < (x5.size : Int) then (if (bt x5 0) = 45 then ((spec_DateOk.f k x123000 x123001 x123002 x123003 x123004 x123005 true (wrap64 (-(wrap64 ((wrap64 (60 * x6)) + x7))))).bind fun t131 => (if t131 = true then (some (x123000, x123001, x123002, x123003, x123004, x123005, true, wrap64 (-(wrap64 ((wrap64 (60 * x6)) + x7))), true)) else (some (0, 0, 0, 0, 0, 0, false, 0, false)))) else ((spec_DateOk.f k x123000 x123001 x123002 x123003 x123004 x123005 true (wrap64 ((wrap64 (60 * x6)) + x7))).bind fun t132 => (if t132 = true then (some (x123000, x123001, x123002, x123003, x123004, x123005, true, wrap64 ((wrap64 (60 * x6)) + x7), true)) else (some (0, 0, 0, 0, 0, 0, false, 0, false))))) else (none))
end
def spec_ReadDate.f (k : Nat) (a0 : ByteArray) : Option (Int × Int × Int × Int × Int × Int × Bool × Int × Bool) := if (a0.size : Int) < 19 then (spec_ReadDate.j0 k a0 true) else (if 4 < (a0.size : Int) then (if (bt a0 4) = 45 then (if 7 < (a0.size : Int) then (if (bt a0 7) = 45 then (if 10 < (a0.size : Int) then (if (bt a0 10) = 84 then (if 13 < (a0.size : Int) then (if (bt a0 13) = 58 then (if 16 < (a0.size : Int) then (spec_ReadDate.j0 k a0 ((bt a0 16) != 58)) else (none)) else (spec_ReadDate.j0 k a0 true)) else (none)) else (spec_ReadDate.j0 k a0 true)) else (none)) else (spec_ReadDate.j0 k a0 true)) else (none)) else (spec_ReadDate.j0 k a0 true)) else (none))
theorem spec_ReadDate.mono_l : ∀ k, (∀ y0 y1, LeO (spec_ReadDate.j0 k y0 y1) (spec_ReadDate.j0 (k + 1) y0 y1)) ∧ (∀ y0 y1 y2 y3 y4 y5 y6 y7 y8 y9 y10 y11, LeO (spec_ReadDate.j1 k y0 y1 y2 y3 y4 y5 y6 y7 y8 y9 y10 y11) (spec_ReadDate.j1 (k + 1) y0 y1 y2 y3 y4 y5 y6 y7 y8 y9 y10 y11))
 | 0 => ⟨fun _ _ r h => by simp [spec_ReadDate.j0] at h, fun _ _ _ _ _ _ _ _ _ _ _ _ r h => by simp [spec_ReadDate.j1] at h⟩
 | k + 1 => by
  obtain ⟨ih0, ih1⟩ := spec_ReadDate.mono_l k
  refine ⟨?_, ?_⟩
  ·intro y0 y1
   unfold spec_ReadDate.j0
   repeat' first
   | (with_reducible exact ih0 _ _)
   | (with_reducible exact ih1 _ _ _ _ _ _ _ _ _ _ _ _)
   | (with_reducible exact spec_DateOk.mono _ _ _ _ _ _ _ _ _)
   | (with_reducible exact spec_l5Part.mono _ _ _ _)
   | (with_reducible exact LeO.refl _)
   | (with_reducible exact LeO.none _)
   | (with_reducible refine LeO.ite ?_ ?_)
   | (with_reducible refine LeO.bind ?_ (fun _ => ?_))
   | exact ih0 _ _
   | exact ih1 _ _ _ _ _ _ _ _ _ _ _ _
   | exact spec_DateOk.mono _ _ _ _ _ _ _ _ _
   | exact spec_l5Part.mono _ _ _ _
   | exact LeO.none _
   | refine LeO.ite ?_ ?_
   | refine LeO.bind ?_ (fun _ => ?_)
  ·intro y0 y1 y2 y3 y4 y5 y6 y7 y8 y9 y10 y11
   unfold spec_ReadDate.j1
   repeat' first
   | (with_reducible exact ih0 _ _)
   | (with_reducible exact ih1 _ _ _ _ _ _ _ _ _ _ _ _)
   | (with_reducible exact spec_DateOk.mono _ _ _ _ _ _ _ _ _)
   | (with_reducible exact spec_l5Part.mono _ _ _ _)
   | (with_reducible exact LeO.refl _)
   | (with_reducible exact LeO.none _)
   | (with_reducible refine LeO.ite ?_ ?_)
   | (with_reducible refine LeO.bind ?_ (fun _ => ?_))
   | exact ih0 _ _
   | exact ih1 _ _ _ _ _ _ _ _ _ _ _ _
   | exact spec_DateOk.mono _ _ _ _ _ _ _ _ _
   | exact spec_l5Part.mono _ _ _ _
   | exact LeO.none _
   | refine LeO.ite ?_ ?_
   | refine LeO.bind ?_ (fun _ => ?_)
theorem spec_ReadDate.mono : ∀ a0 k, LeO (spec_ReadDate.f k a0) (spec_ReadDate.f (k + 1) a0) := by
 intro a0 k
 obtain ⟨ih0, ih1⟩ := spec_ReadDate.mono_l k
 unfold spec_ReadDate.f
 repeat' first
   | (with_reducible exact ih0 _ _)
   | (with_reducible exact ih1 _ _ _ _ _ _ _ _ _ _ _ _)
   | (with_reducible exact spec_DateOk.mono _ _ _ _ _ _ _ _ _)
   | (with_reducible exact spec_l5Part.mono _ _ _ _)
   | (with_reducible exact LeO.refl _)
   | (with_reducible exact LeO.none _)
   | (with_reducible refine LeO.ite ?_ ?_)
   | (with_reducible refine LeO.bind ?_ (fun _ => ?_))
   | exact ih0 _ _
   | exact ih1 _ _ _ _ _ _ _ _ _ _ _ _
   | exact spec_DateOk.mono _ _ _ _ _ _ _ _ _
   | exact spec_l5Part.mono _ _ _ _
   | exact LeO.none _
   | refine LeO.ite ?_ ?_
   | refine LeO.bind ?_ (fun _ => ?_)
set_option maxHeartbeats 100000000 in
set_option maxRecDepth 100000 in
theorem spec_ReadDate.calls (k : Nat) (a0 : ByteArray) (r1 : Int) (r2 : Int) (r3 : Int) (r4 : Int) (r5 : Int) (r6 : Int) (r7 : Bool) (r8 : Int) (r9 : Bool) (w : World) (h : spec_ReadDate.f k a0 = some (r1, r2, r3, r4, r5, r6, r7, r8, r9)) :
  Calls Tryd.prog 5 #[.string a0] w fun e w' => e = .returned (.tuple #[.agg #[.int .i64 r1, .int .i64 r2, .int .i64 r3, .int .i64 r4, .int .i64 r5, .int .i64 r6, .bool r7, .int .i64 r8], .bool r9]) ∧ Below w.heap.size w w' := by
 have hu23 := Tryd.underlying23
 have HB := Aside0.mk (Below.refl w.heap.size w)
 have H : (if (a0.size : Int) < 19 then (spec_ReadDate.j0 k a0 true) else (if 4 < (a0.size : Int) then (if (bt a0 4) = 45 then (if 7 < (a0.size : Int) then (if (bt a0 7) = 45 then (if 10 < (a0.size : Int) then (if (bt a0 10) = 84 then (if 13 < (a0.size : Int) then (if (bt a0 13) = 58 then (if 16 < (a0.size : Int) then (spec_ReadDate.j0 k a0 ((bt a0 16) != 58)) else (none)) else (spec_ReadDate.j0 k a0 true)) else (none)) else (spec_ReadDate.j0 k a0 true)) else (none)) else (spec_ReadDate.j0 k a0 true)) else (none)) else (spec_ReadDate.j0 k a0 true)) else (none))) = some (r1, r2, r3, r4, r5, r6, r7, r8, r9) := h
 clear h
 have HC2 := Aside0.mk H
 clear H
 go_enter Tryd.func5, Tryd.ntmps5
 go_upto_region 1 with (first | ((with_reducible refine gate_dst (N := 2) rfl ?_); refine box_event ?hg (N := 2) ?hd (cs := #[.int .i64 0, .int .i64 0, .int .i64 0, .int .i64 0, .int .i64 0, .int .i64 0, .bool false, .int .i64 0]) (t := 23) ?hr ?_; (case hd => rfl); (case hg => rfl); (case hr => first | (go_simp; done) | (go_simp; rfl)); intro gb115 hg w3 hbox hb; have n0_ := Aside0.mk (below_step (by repeat (first | (with_reducible first | exact HB.out | apply below_alloc | apply pw_below_drewN | apply below_drew1) | exact HB.out)) hb); have n1_ := Aside0.mk (hbox); have n2_ := Aside0.mk ((by rw [hg]; exact (below_size (by repeat (first | (with_reducible first | exact HB.out | apply below_alloc | apply pw_below_drewN | apply below_drew1) | exact HB.out))) : w.heap.size ≤ gb115)); have n3_ := Aside0.mk ((by rw [hg]; exact (below_size (by repeat (first | (with_reducible first | exact HB.out | apply below_alloc | apply pw_below_drewN | apply below_drew1) | exact HB.out))) : w.heap.size ≤ gb115)); clear HB; have HB := n0_; have BK115 := n1_; have GW115 := n2_; have GE115 := n3_; clear n0_ n1_ n2_ n3_; clear hb hbox hg))
 (try simp only [Act.put, List.setIfInBounds_toArray, List.set_cons_zero, List.set_cons_succ])
 go_cut [35] (fun v35 wc => ∃ (kq : Nat) (x35_1 : Bool), v35 = .bool x35_1 ∧ Aside0 (spec_ReadDate.j0 kq a0 x35_1 = some (r1, r2, r3, r4, r5, r6, r7, r8, r9)) ∧ Aside0 (kq ≤ k) ∧ Aside0 (wc.heap[gb115]? = some (.cells #[.int .i64 0, .int .i64 0, .int .i64 0, .int .i64 0, .int .i64 0, .int .i64 0, .bool false, .int .i64 0] 23 (0, 0))) ∧ Aside0 (Below w.heap.size w wc))
 case first =>
  have H := HC2.out
  clear HC2
  by_cases c4 : (a0.size : Int) < 19
  ·rw [if_pos c4] at H
   have c4b0 : decide ((a0.size : Int) < 19) = true := decide_eq_true c4
   have c4b1 : decide (a0.size < 19) = true := decide_eq_true (by omega)
   clear c4
   (first | rw [c4b0] | (simp only [i64_w, i32_w]; rw [c4b0]) | skip)
   have H' := Aside0.mk H
   clear H
   go_wp2
   go_meet
   case rel => exact ⟨_, (true), (by first | rfl | (simp; done) | (simp [*]; done)), H', ⟨by first | omega | exact Nat.le_refl _⟩, ⟨by (with_reducible repeat (first | refine blk_drewN ?_ _ | refine blk_drew ?_ | refine blk_alloc ?_ _)); exact BK115.out⟩, ⟨by repeat (first | (with_reducible first | exact HB.out | apply below_alloc | apply pw_below_drewN | apply below_drew1 | refine below_set ?_ GE115.out) | exact HB.out)⟩⟩
  ·rw [if_neg c4] at H
   have c4b0 : decide ((a0.size : Int) < 19) = false := decide_eq_false c4
   have c4b1 : decide (a0.size < 19) = false := decide_eq_false (by omega)
   clear c4
   (first | rw [c4b0] | (simp only [i64_w, i32_w]; rw [c4b0]) | skip)
   by_cases c5 : 4 < (a0.size : Int)
   ·rw [if_pos c5] at H
    have c5b0 : decide (4 < (a0.size : Int)) = true := decide_eq_true c5
    have c5b1 : decide (4 < a0.size) = true := decide_eq_true (by omega)
    clear c5
    by_cases c7 : (bt a0 4) = 45
    ·rw [if_pos c7] at H
     have c7b0 : ((bt a0 4) == 45) = true := beq_iff_eq.mpr c7
     have c7b1 : ((bt a0 4) != 45) = false := bne_eq_false_iff_eq.mpr c7
     clear c7
     by_cases c8 : 7 < (a0.size : Int)
     ·rw [if_pos c8] at H
      have c8b0 : decide (7 < (a0.size : Int)) = true := decide_eq_true c8
      have c8b1 : decide (7 < a0.size) = true := decide_eq_true (by omega)
      clear c8
      by_cases c10 : (bt a0 7) = 45
      ·rw [if_pos c10] at H
       have c10b0 : ((bt a0 7) == 45) = true := beq_iff_eq.mpr c10
       have c10b1 : ((bt a0 7) != 45) = false := bne_eq_false_iff_eq.mpr c10
       clear c10
       by_cases c11 : 10 < (a0.size : Int)
       ·rw [if_pos c11] at H
        have c11b0 : decide (10 < (a0.size : Int)) = true := decide_eq_true c11
        have c11b1 : decide (10 < a0.size) = true := decide_eq_true (by omega)
        clear c11
        by_cases c13 : (bt a0 10) = 84
        ·rw [if_pos c13] at H
         have c13b0 : ((bt a0 10) == 84) = true := beq_iff_eq.mpr c13
         have c13b1 : ((bt a0 10) != 84) = false := bne_eq_false_iff_eq.mpr c13
         clear c13
         by_cases c14 : 13 < (a0.size : Int)
         ·rw [if_pos c14] at H
          have c14b0 : decide (13 < (a0.size : Int)) = true := decide_eq_true c14
          have c14b1 : decide (13 < a0.size) = true := decide_eq_true (by omega)
          clear c14
          by_cases c16 : (bt a0 13) = 58
          ·rw [if_pos c16] at H
           have c16b0 : ((bt a0 13) == 58) = true := beq_iff_eq.mpr c16
           have c16b1 : ((bt a0 13) != 58) = false := bne_eq_false_iff_eq.mpr c16
           clear c16
           by_cases c17 : 16 < (a0.size : Int)
           ·rw [if_pos c17] at H
            have c17b0 : decide (16 < (a0.size : Int)) = true := decide_eq_true c17
            have c17b1 : decide (16 < a0.size) = true := decide_eq_true (by omega)
            clear c17
            have H' := Aside0.mk H
            clear H
            have p6 : 0 ≤ (4 : Int) := (by omega)
            have q6 : 4 < a0.size := (by have : (4 : Int) < (a0.size : Int) := of_decide_eq_true (by first | (with_reducible assumption) | assumption); omega)
            have hx6 : ∀ h : 4 < a0.size, ((a0[4]'h).toNat : Int) = bt a0 4 := bt_at a0 4
            clear p6
            have qi6 : (4 < (a0.size : Int)) = True := eq_true (of_decide_eq_true (by first | (with_reducible assumption) | assumption))
            replace q6 := eq_true q6
            have p9 : 0 ≤ (7 : Int) := (by omega)
            have q9 : 7 < a0.size := (by have : (7 : Int) < (a0.size : Int) := of_decide_eq_true (by first | (with_reducible assumption) | assumption); omega)
            have hx9 : ∀ h : 7 < a0.size, ((a0[7]'h).toNat : Int) = bt a0 7 := bt_at a0 7
            clear p9
            have qi9 : (7 < (a0.size : Int)) = True := eq_true (of_decide_eq_true (by first | (with_reducible assumption) | assumption))
            replace q9 := eq_true q9
            have p12 : 0 ≤ (10 : Int) := (by omega)
            have q12 : 10 < a0.size := (by have : (10 : Int) < (a0.size : Int) := of_decide_eq_true (by first | (with_reducible assumption) | assumption); omega)
            have hx12 : ∀ h : 10 < a0.size, ((a0[10]'h).toNat : Int) = bt a0 10 := bt_at a0 10
            clear p12
            have qi12 : (10 < (a0.size : Int)) = True := eq_true (of_decide_eq_true (by first | (with_reducible assumption) | assumption))
            replace q12 := eq_true q12
            have p15 : 0 ≤ (13 : Int) := (by omega)
            have q15 : 13 < a0.size := (by have : (13 : Int) < (a0.size : Int) := of_decide_eq_true (by first | (with_reducible assumption) | assumption); omega)
            have hx15 : ∀ h : 13 < a0.size, ((a0[13]'h).toNat : Int) = bt a0 13 := bt_at a0 13
            clear p15
            have qi15 : (13 < (a0.size : Int)) = True := eq_true (of_decide_eq_true (by first | (with_reducible assumption) | assumption))
            replace q15 := eq_true q15
            have p18 : 0 ≤ (16 : Int) := (by omega)
            have q18 : 16 < a0.size := (by have : (16 : Int) < (a0.size : Int) := of_decide_eq_true (by first | (with_reducible assumption) | assumption); omega)
            have hx18 : ∀ h : 16 < a0.size, ((a0[16]'h).toNat : Int) = bt a0 16 := bt_at a0 16
            clear p18
            have qi18 : (16 < (a0.size : Int)) = True := eq_true (of_decide_eq_true (by first | (with_reducible assumption) | assumption))
            replace q18 := eq_true q18
            go_wp2
            go_meet
            case rel => exact ⟨_, (((bt a0 16) != 58)), (by first | rfl | (simp; done) | (simp [*]; done)), H', ⟨by first | omega | exact Nat.le_refl _⟩, ⟨by (with_reducible repeat (first | refine blk_drewN ?_ _ | refine blk_drew ?_ | refine blk_alloc ?_ _)); exact BK115.out⟩, ⟨by repeat (first | (with_reducible first | exact HB.out | apply below_alloc | apply pw_below_drewN | apply below_drew1 | refine below_set ?_ GE115.out) | exact HB.out)⟩⟩
           ·rw [if_neg c17] at H
            exact absurd H (by simp)
          ·rw [if_neg c16] at H
           have c16b0 : ((bt a0 13) == 58) = false := beq_eq_false_iff_ne.mpr c16
           have c16b1 : ((bt a0 13) != 58) = true := bne_iff_ne.mpr c16
           have H' := Aside0.mk H
           clear H
           have p6 : 0 ≤ (4 : Int) := (by omega)
           have q6 : 4 < a0.size := (by have : (4 : Int) < (a0.size : Int) := of_decide_eq_true (by first | (with_reducible assumption) | assumption); omega)
           have hx6 : ∀ h : 4 < a0.size, ((a0[4]'h).toNat : Int) = bt a0 4 := bt_at a0 4
           clear p6
           have qi6 : (4 < (a0.size : Int)) = True := eq_true (of_decide_eq_true (by first | (with_reducible assumption) | assumption))
           replace q6 := eq_true q6
           have p9 : 0 ≤ (7 : Int) := (by omega)
           have q9 : 7 < a0.size := (by have : (7 : Int) < (a0.size : Int) := of_decide_eq_true (by first | (with_reducible assumption) | assumption); omega)
           have hx9 : ∀ h : 7 < a0.size, ((a0[7]'h).toNat : Int) = bt a0 7 := bt_at a0 7
           clear p9
           have qi9 : (7 < (a0.size : Int)) = True := eq_true (of_decide_eq_true (by first | (with_reducible assumption) | assumption))
           replace q9 := eq_true q9
           have p12 : 0 ≤ (10 : Int) := (by omega)
           have q12 : 10 < a0.size := (by have : (10 : Int) < (a0.size : Int) := of_decide_eq_true (by first | (with_reducible assumption) | assumption); omega)
           have hx12 : ∀ h : 10 < a0.size, ((a0[10]'h).toNat : Int) = bt a0 10 := bt_at a0 10
           clear p12
           have qi12 : (10 < (a0.size : Int)) = True := eq_true (of_decide_eq_true (by first | (with_reducible assumption) | assumption))
           replace q12 := eq_true q12
           have p15 : 0 ≤ (13 : Int) := (by omega)
           have q15 : 13 < a0.size := (by have : (13 : Int) < (a0.size : Int) := of_decide_eq_true (by first | (with_reducible assumption) | assumption); omega)
           have hx15 : ∀ h : 13 < a0.size, ((a0[13]'h).toNat : Int) = bt a0 13 := bt_at a0 13
           clear p15
           have qi15 : (13 < (a0.size : Int)) = True := eq_true (of_decide_eq_true (by first | (with_reducible assumption) | assumption))
           replace q15 := eq_true q15
           go_wp2
           go_meet
           case rel => exact ⟨_, (true), (by first | rfl | (simp; done) | (simp [*]; done)), H', ⟨by first | omega | exact Nat.le_refl _⟩, ⟨by (with_reducible repeat (first | refine blk_drewN ?_ _ | refine blk_drew ?_ | refine blk_alloc ?_ _)); exact BK115.out⟩, ⟨by repeat (first | (with_reducible first | exact HB.out | apply below_alloc | apply pw_below_drewN | apply below_drew1 | refine below_set ?_ GE115.out) | exact HB.out)⟩⟩
         ·rw [if_neg c14] at H
          exact absurd H (by simp)
        ·rw [if_neg c13] at H
         have c13b0 : ((bt a0 10) == 84) = false := beq_eq_false_iff_ne.mpr c13
         have c13b1 : ((bt a0 10) != 84) = true := bne_iff_ne.mpr c13
         have H' := Aside0.mk H
         clear H
         have p6 : 0 ≤ (4 : Int) := (by omega)
         have q6 : 4 < a0.size := (by have : (4 : Int) < (a0.size : Int) := of_decide_eq_true (by first | (with_reducible assumption) | assumption); omega)
         have hx6 : ∀ h : 4 < a0.size, ((a0[4]'h).toNat : Int) = bt a0 4 := bt_at a0 4
         clear p6
         have qi6 : (4 < (a0.size : Int)) = True := eq_true (of_decide_eq_true (by first | (with_reducible assumption) | assumption))
         replace q6 := eq_true q6
         have p9 : 0 ≤ (7 : Int) := (by omega)
         have q9 : 7 < a0.size := (by have : (7 : Int) < (a0.size : Int) := of_decide_eq_true (by first | (with_reducible assumption) | assumption); omega)
         have hx9 : ∀ h : 7 < a0.size, ((a0[7]'h).toNat : Int) = bt a0 7 := bt_at a0 7
         clear p9
         have qi9 : (7 < (a0.size : Int)) = True := eq_true (of_decide_eq_true (by first | (with_reducible assumption) | assumption))
         replace q9 := eq_true q9
         have p12 : 0 ≤ (10 : Int) := (by omega)
         have q12 : 10 < a0.size := (by have : (10 : Int) < (a0.size : Int) := of_decide_eq_true (by first | (with_reducible assumption) | assumption); omega)
         have hx12 : ∀ h : 10 < a0.size, ((a0[10]'h).toNat : Int) = bt a0 10 := bt_at a0 10
         clear p12
         have qi12 : (10 < (a0.size : Int)) = True := eq_true (of_decide_eq_true (by first | (with_reducible assumption) | assumption))
         replace q12 := eq_true q12
         go_wp2
         go_meet
         case rel => exact ⟨_, (true), (by first | rfl | (simp; done) | (simp [*]; done)), H', ⟨by first | omega | exact Nat.le_refl _⟩, ⟨by (with_reducible repeat (first | refine blk_drewN ?_ _ | refine blk_drew ?_ | refine blk_alloc ?_ _)); exact BK115.out⟩, ⟨by repeat (first | (with_reducible first | exact HB.out | apply below_alloc | apply pw_below_drewN | apply below_drew1 | refine below_set ?_ GE115.out) | exact HB.out)⟩⟩
       ·rw [if_neg c11] at H
        exact absurd H (by simp)
      ·rw [if_neg c10] at H
       have c10b0 : ((bt a0 7) == 45) = false := beq_eq_false_iff_ne.mpr c10
       have c10b1 : ((bt a0 7) != 45) = true := bne_iff_ne.mpr c10
       have H' := Aside0.mk H
       clear H
       have p6 : 0 ≤ (4 : Int) := (by omega)
       have q6 : 4 < a0.size := (by have : (4 : Int) < (a0.size : Int) := of_decide_eq_true (by first | (with_reducible assumption) | assumption); omega)
       have hx6 : ∀ h : 4 < a0.size, ((a0[4]'h).toNat : Int) = bt a0 4 := bt_at a0 4
       clear p6
       have qi6 : (4 < (a0.size : Int)) = True := eq_true (of_decide_eq_true (by first | (with_reducible assumption) | assumption))
       replace q6 := eq_true q6
       have p9 : 0 ≤ (7 : Int) := (by omega)
       have q9 : 7 < a0.size := (by have : (7 : Int) < (a0.size : Int) := of_decide_eq_true (by first | (with_reducible assumption) | assumption); omega)
       have hx9 : ∀ h : 7 < a0.size, ((a0[7]'h).toNat : Int) = bt a0 7 := bt_at a0 7
       clear p9
       have qi9 : (7 < (a0.size : Int)) = True := eq_true (of_decide_eq_true (by first | (with_reducible assumption) | assumption))
       replace q9 := eq_true q9
       go_wp2
       go_meet
       case rel => exact ⟨_, (true), (by first | rfl | (simp; done) | (simp [*]; done)), H', ⟨by first | omega | exact Nat.le_refl _⟩, ⟨by (with_reducible repeat (first | refine blk_drewN ?_ _ | refine blk_drew ?_ | refine blk_alloc ?_ _)); exact BK115.out⟩, ⟨by repeat (first | (with_reducible first | exact HB.out | apply below_alloc | apply pw_below_drewN | apply below_drew1 | refine below_set ?_ GE115.out) | exact HB.out)⟩⟩
     ·rw [if_neg c8] at H
      exact absurd H (by simp)
    ·rw [if_neg c7] at H
     have c7b0 : ((bt a0 4) == 45) = false := beq_eq_false_iff_ne.mpr c7
     have c7b1 : ((bt a0 4) != 45) = true := bne_iff_ne.mpr c7
     have H' := Aside0.mk H
     clear H
     have p6 : 0 ≤ (4 : Int) := (by omega)
     have q6 : 4 < a0.size := (by have : (4 : Int) < (a0.size : Int) := of_decide_eq_true (by first | (with_reducible assumption) | assumption); omega)
     have hx6 : ∀ h : 4 < a0.size, ((a0[4]'h).toNat : Int) = bt a0 4 := bt_at a0 4
     clear p6
     have qi6 : (4 < (a0.size : Int)) = True := eq_true (of_decide_eq_true (by first | (with_reducible assumption) | assumption))
     replace q6 := eq_true q6
     go_wp2
     go_meet
     case rel => exact ⟨_, (true), (by first | rfl | (simp; done) | (simp [*]; done)), H', ⟨by first | omega | exact Nat.le_refl _⟩, ⟨by (with_reducible repeat (first | refine blk_drewN ?_ _ | refine blk_drew ?_ | refine blk_alloc ?_ _)); exact BK115.out⟩, ⟨by repeat (first | (with_reducible first | exact HB.out | apply below_alloc | apply pw_below_drewN | apply below_drew1 | refine below_set ?_ GE115.out) | exact HB.out)⟩⟩
   ·rw [if_neg c5] at H
    exact absurd H (by simp)
 case rest =>
  clear HC2
  try clear c1
  try clear p1
  try clear q1
  try clear hx1
  try clear qi1
  try clear p2
  try clear c4
  try clear c4b0
  try clear c4b1
  try clear c5
  try clear c5b0
  try clear c5b1
  try clear p6
  try clear q6
  try clear hx6
  try clear qi6
  try clear c7
  try clear c7b0
  try clear c7b1
  try clear c8
  try clear c8b0
  try clear c8b1
  try clear p9
  try clear q9
  try clear hx9
  try clear qi9
  try clear c10
  try clear c10b0
  try clear c10b1
  try clear c11
  try clear c11b0
  try clear c11b1
  try clear p12
  try clear q12
  try clear hx12
  try clear qi12
  try clear c13
  try clear c13b0
  try clear c13b1
  try clear c14
  try clear c14b0
  try clear c14b1
  try clear p15
  try clear q15
  try clear hx15
  try clear qi15
  try clear c16
  try clear c16b0
  try clear c16b1
  try clear c17
  try clear c17b0
  try clear c17b1
  try clear p18
  try clear q18
  try clear hx18
  try clear qi18
  try clear p12
  try clear p15
  try clear p18
  try clear p6
  try clear p9
  try clear q12
  try clear q15
  try clear q18
  try clear q6
  try clear q9
  obtain ⟨kq, x35_1, rfl, HA, HJ1, BK115, HB⟩ := hcut
  cases kq with
  | zero => exact absurd HA.out (by simp [spec_ReadDate.j0])
  | succ kj1 =>
   have H := HA.out
   clear HA
   simp only [spec_ReadDate.j0] at H
   by_cases c19 : x35_1 = true
   ·subst c19
    have H1 : (some (0, 0, 0, 0, 0, 0, false, 0, false)) = some (r1, r2, r3, r4, r5, r6, r7, r8, r9) := by rw [if_pos rfl] at H; exact H
    clear H
    have H := H1
    clear H1
    simp only [Option.some.injEq, Prod.mk.injEq] at H
    obtain ⟨rfl, rfl, rfl, rfl, rfl, rfl, rfl, rfl, rfl⟩ := H
    have hcz20_0 : wc.cell? ⟨gb115, 0, none⟩ = some (.int .i64 0) := (blk_cell BK115.out 0).trans rfl
    have hcz20_1 : wc.cell? ⟨gb115, 1, none⟩ = some (.int .i64 0) := (blk_cell BK115.out 1).trans rfl
    have hcz20_2 : wc.cell? ⟨gb115, 2, none⟩ = some (.int .i64 0) := (blk_cell BK115.out 2).trans rfl
    have hcz20_3 : wc.cell? ⟨gb115, 3, none⟩ = some (.int .i64 0) := (blk_cell BK115.out 3).trans rfl
    have hcz20_4 : wc.cell? ⟨gb115, 4, none⟩ = some (.int .i64 0) := (blk_cell BK115.out 4).trans rfl
    have hcz20_5 : wc.cell? ⟨gb115, 5, none⟩ = some (.int .i64 0) := (blk_cell BK115.out 5).trans rfl
    have hcz20_6 : wc.cell? ⟨gb115, 6, none⟩ = some (.bool false) := (blk_cell BK115.out 6).trans rfl
    have hcz20_7 : wc.cell? ⟨gb115, 7, none⟩ = some (.int .i64 0) := (blk_cell BK115.out 7).trans rfl
    have hfz20_0 := blk_frozen BK115.out 0
    have hfz20_1 := blk_frozen BK115.out 1
    have hfz20_2 := blk_frozen BK115.out 2
    have hfz20_3 := blk_frozen BK115.out 3
    have hfz20_4 := blk_frozen BK115.out 4
    have hfz20_5 := blk_frozen BK115.out 5
    have hfz20_6 := blk_frozen BK115.out 6
    have hfz20_7 := blk_frozen BK115.out 7
    go_wp2_with (first | ((with_reducible refine gate_store (t := 23) (p := 2) rfl ?_); refine store_event (t := 23) (p := 2) (v := ?vo_w21) (w1 := ((((((((wc.setCell ⟨gb115, 0, none⟩ (.int .i64 0)).setCell ⟨gb115, 1, none⟩ (.int .i64 0)).setCell ⟨gb115, 2, none⟩ (.int .i64 0)).setCell ⟨gb115, 3, none⟩ (.int .i64 0)).setCell ⟨gb115, 4, none⟩ (.int .i64 0)).setCell ⟨gb115, 5, none⟩ (.int .i64 0)).setCell ⟨gb115, 6, none⟩ (.bool false)).setCell ⟨gb115, 7, none⟩ (.int .i64 0))) ?hg ?ho ?hn ?hr ?_; (case ho => rfl); (case hg => rfl); (case hn => rfl); (case hr => first | (go_simp; done) | (go_simp; rfl)); intro w21 hw; have n0_ : Aside0 (w21.heap[gb115]? = some (.cells #[.int .i64 0, .int .i64 0, .int .i64 0, .int .i64 0, .int .i64 0, .int .i64 0, .bool false, .int .i64 0] 23 (0, 0))) := ⟨(by rw [hw]; exact (by (with_reducible repeat (first | refine blk_drewN ?_ _ | refine blk_drew ?_ | refine blk_alloc ?_ _)); refine blk_put (cs := #[.int .i64 0, .int .i64 0, .int .i64 0, .int .i64 0, .int .i64 0, .int .i64 0, .bool false, .int .i64 0]) ?_ 7 _ rfl; (with_reducible repeat (first | refine blk_drewN ?_ _ | refine blk_drew ?_ | refine blk_alloc ?_ _)); refine blk_put (cs := #[.int .i64 0, .int .i64 0, .int .i64 0, .int .i64 0, .int .i64 0, .int .i64 0, .bool false, .int .i64 0]) ?_ 6 _ rfl; (with_reducible repeat (first | refine blk_drewN ?_ _ | refine blk_drew ?_ | refine blk_alloc ?_ _)); refine blk_put (cs := #[.int .i64 0, .int .i64 0, .int .i64 0, .int .i64 0, .int .i64 0, .int .i64 0, .bool false, .int .i64 0]) ?_ 5 _ rfl; (with_reducible repeat (first | refine blk_drewN ?_ _ | refine blk_drew ?_ | refine blk_alloc ?_ _)); refine blk_put (cs := #[.int .i64 0, .int .i64 0, .int .i64 0, .int .i64 0, .int .i64 0, .int .i64 0, .bool false, .int .i64 0]) ?_ 4 _ rfl; (with_reducible repeat (first | refine blk_drewN ?_ _ | refine blk_drew ?_ | refine blk_alloc ?_ _)); refine blk_put (cs := #[.int .i64 0, .int .i64 0, .int .i64 0, .int .i64 0, .int .i64 0, .int .i64 0, .bool false, .int .i64 0]) ?_ 3 _ rfl; (with_reducible repeat (first | refine blk_drewN ?_ _ | refine blk_drew ?_ | refine blk_alloc ?_ _)); refine blk_put (cs := #[.int .i64 0, .int .i64 0, .int .i64 0, .int .i64 0, .int .i64 0, .int .i64 0, .bool false, .int .i64 0]) ?_ 2 _ rfl; (with_reducible repeat (first | refine blk_drewN ?_ _ | refine blk_drew ?_ | refine blk_alloc ?_ _)); refine blk_put (cs := #[.int .i64 0, .int .i64 0, .int .i64 0, .int .i64 0, .int .i64 0, .int .i64 0, .bool false, .int .i64 0]) ?_ 1 _ rfl; (with_reducible repeat (first | refine blk_drewN ?_ _ | refine blk_drew ?_ | refine blk_alloc ?_ _)); refine blk_put (cs := #[.int .i64 0, .int .i64 0, .int .i64 0, .int .i64 0, .int .i64 0, .int .i64 0, .bool false, .int .i64 0]) ?_ 0 _ rfl; (with_reducible repeat (first | refine blk_drewN ?_ _ | refine blk_drew ?_ | refine blk_alloc ?_ _)); exact BK115.out))⟩; have n1_ : Aside0 (Below w.heap.size w w21) := ⟨(by rw [hw]; exact (by repeat (first | (with_reducible first | exact HB.out | apply below_alloc | apply pw_below_drewN | apply below_drew1 | refine below_set ?_ GE115.out) | exact HB.out)))⟩; clear hw; clear BK115; clear HB; have BK115 := n0_; have HB := n1_; clear n0_ n1_))
    refine bodyPost_ret (results_ct rfl _ _ gb115 23 #[.int .i64 0, .int .i64 0, .int .i64 0, .int .i64 0, .int .i64 0, .int .i64 0, .bool false, .int .i64 0] (0, 0) _ rfl (by (with_reducible repeat (first | refine blk_drewN ?_ _ | refine blk_drew ?_ | refine blk_alloc ?_ _)); exact BK115.out) Tryd.underlying23 rfl (by kernel_rfl)) rfl ?_
    exact ⟨by first | rfl | (simp only [show ∀ l_ : List UInt8, (l_ != []) = !l_.isEmpty from fun l_ => by cases l_ <;> rfl, show ∀ l_ : List UInt8, (l_ == []) = l_.isEmpty from fun l_ => by cases l_ <;> rfl]; rfl) | (simp [*] <;> rfl), by repeat (first | (with_reducible first | exact HB.out | apply below_alloc | apply pw_below_drewN | apply below_drew1 | refine below_set ?_ GE115.out) | exact HB.out)⟩
   ·replace c19 := Bool.eq_false_iff.mpr c19
    subst c19
    have H1 : ((spec_l5Part.f kj1 a0 0 4).bind fun t116 => ((spec_l5Part.f kj1 a0 5 2).bind fun t117 => ((spec_l5Part.f kj1 a0 8 2).bind fun t118 => ((spec_l5Part.f kj1 a0 11 2).bind fun t119 => ((spec_l5Part.f kj1 a0 14 2).bind fun t120 => ((spec_l5Part.f kj1 a0 17 2).bind fun t121 => (if 19 ≤ (a0.size : Int) then (if (a0.extract 19 a0.size).toList = ([90] : List UInt8) then ((spec_DateOk.f kj1 t116 t117 t118 t119 t120 t121 true 0).bind fun t123 => (if t123 = true then (some (t116, t117, t118, t119, t120, t121, true, 0, true)) else (some (0, 0, 0, 0, 0, 0, false, 0, false)))) else (if (a0.extract 19 a0.size).toList = ([] : List UInt8) then ((spec_DateOk.f kj1 t116 t117 t118 t119 t120 t121 false 0).bind fun t124 => (if t124 = true then (some (t116, t117, t118, t119, t120, t121, false, 0, true)) else (some (0, 0, 0, 0, 0, 0, false, 0, false)))) else ((spec_l5Part.f kj1 (a0.extract 19 a0.size) 1 2).bind fun t125 => ((spec_l5Part.f kj1 (a0.extract 19 a0.size) 4 2).bind fun t126 => (if ((a0.extract 19 a0.size).size : Int) = 6 then (if 0 < ((a0.extract 19 a0.size).size : Int) then (if (bt (a0.extract 19 a0.size) 0) = 43 then (if 3 < ((a0.extract 19 a0.size).size : Int) then (if (bt (a0.extract 19 a0.size) 3) = 58 then ((spec_l1In.f t125 0 14).bind fun t127 => (if t127 = true then ((spec_l1In.f t126 0 59).bind fun t128 => (spec_ReadDate.j1 kj1 (a0.extract 19 a0.size) t125 t126 (!t128) t116 t117 t118 t119 t120 t121 false 0)) else (spec_ReadDate.j1 kj1 (a0.extract 19 a0.size) t125 t126 true t116 t117 t118 t119 t120 t121 false 0))) else (spec_ReadDate.j1 kj1 (a0.extract 19 a0.size) t125 t126 true t116 t117 t118 t119 t120 t121 false 0)) else (none)) else (if (bt (a0.extract 19 a0.size) 0) = 45 then (if 3 < ((a0.extract 19 a0.size).size : Int) then (if (bt (a0.extract 19 a0.size) 3) = 58 then ((spec_l1In.f t125 0 14).bind fun t129 => (if t129 = true then ((spec_l1In.f t126 0 59).bind fun t130 => (spec_ReadDate.j1 kj1 (a0.extract 19 a0.size) t125 t126 (!t130) t116 t117 t118 t119 t120 t121 false 0)) else (spec_ReadDate.j1 kj1 (a0.extract 19 a0.size) t125 t126 true t116 t117 t118 t119 t120 t121 false 0))) else (spec_ReadDate.j1 kj1 (a0.extract 19 a0.size) t125 t126 true t116 t117 t118 t119 t120 t121 false 0)) else (none)) else (spec_ReadDate.j1 kj1 (a0.extract 19 a0.size) t125 t126 true t116 t117 t118 t119 t120 t121 false 0))) else (none)) else (spec_ReadDate.j1 kj1 (a0.extract 19 a0.size) t125 t126 true t116 t117 t118 t119 t120 t121 false 0)))))) else (none)))))))) = some (r1, r2, r3, r4, r5, r6, r7, r8, r9) := by rw [if_neg (show ¬ (false = true) by decide)] at H; exact H
    clear H
    have H := H1
    clear H1
    replace H := Option.bind_eq_some_iff.mp H
    obtain ⟨t116, A220, H⟩ := H
    replace H : ((spec_l5Part.f kj1 a0 5 2).bind fun t117 => ((spec_l5Part.f kj1 a0 8 2).bind fun t118 => ((spec_l5Part.f kj1 a0 11 2).bind fun t119 => ((spec_l5Part.f kj1 a0 14 2).bind fun t120 => ((spec_l5Part.f kj1 a0 17 2).bind fun t121 => (if 19 ≤ (a0.size : Int) then (if (a0.extract 19 a0.size).toList = ([90] : List UInt8) then ((spec_DateOk.f kj1 t116 t117 t118 t119 t120 t121 true 0).bind fun t123 => (if t123 = true then (some (t116, t117, t118, t119, t120, t121, true, 0, true)) else (some (0, 0, 0, 0, 0, 0, false, 0, false)))) else (if (a0.extract 19 a0.size).toList = ([] : List UInt8) then ((spec_DateOk.f kj1 t116 t117 t118 t119 t120 t121 false 0).bind fun t124 => (if t124 = true then (some (t116, t117, t118, t119, t120, t121, false, 0, true)) else (some (0, 0, 0, 0, 0, 0, false, 0, false)))) else ((spec_l5Part.f kj1 (a0.extract 19 a0.size) 1 2).bind fun t125 => ((spec_l5Part.f kj1 (a0.extract 19 a0.size) 4 2).bind fun t126 => (if ((a0.extract 19 a0.size).size : Int) = 6 then (if 0 < ((a0.extract 19 a0.size).size : Int) then (if (bt (a0.extract 19 a0.size) 0) = 43 then (if 3 < ((a0.extract 19 a0.size).size : Int) then (if (bt (a0.extract 19 a0.size) 3) = 58 then ((spec_l1In.f t125 0 14).bind fun t127 => (if t127 = true then ((spec_l1In.f t126 0 59).bind fun t128 => (spec_ReadDate.j1 kj1 (a0.extract 19 a0.size) t125 t126 (!t128) t116 t117 t118 t119 t120 t121 false 0)) else (spec_ReadDate.j1 kj1 (a0.extract 19 a0.size) t125 t126 true t116 t117 t118 t119 t120 t121 false 0))) else (spec_ReadDate.j1 kj1 (a0.extract 19 a0.size) t125 t126 true t116 t117 t118 t119 t120 t121 false 0)) else (none)) else (if (bt (a0.extract 19 a0.size) 0) = 45 then (if 3 < ((a0.extract 19 a0.size).size : Int) then (if (bt (a0.extract 19 a0.size) 3) = 58 then ((spec_l1In.f t125 0 14).bind fun t129 => (if t129 = true then ((spec_l1In.f t126 0 59).bind fun t130 => (spec_ReadDate.j1 kj1 (a0.extract 19 a0.size) t125 t126 (!t130) t116 t117 t118 t119 t120 t121 false 0)) else (spec_ReadDate.j1 kj1 (a0.extract 19 a0.size) t125 t126 true t116 t117 t118 t119 t120 t121 false 0))) else (spec_ReadDate.j1 kj1 (a0.extract 19 a0.size) t125 t126 true t116 t117 t118 t119 t120 t121 false 0)) else (none)) else (spec_ReadDate.j1 kj1 (a0.extract 19 a0.size) t125 t126 true t116 t117 t118 t119 t120 t121 false 0))) else (none)) else (spec_ReadDate.j1 kj1 (a0.extract 19 a0.size) t125 t126 true t116 t117 t118 t119 t120 t121 false 0)))))) else (none))))))) = some (r1, r2, r3, r4, r5, r6, r7, r8, r9) := H
    have A22 := Aside0.mk A220
    clear A220
    replace H := Option.bind_eq_some_iff.mp H
    obtain ⟨t117, A230, H⟩ := H
    replace H : ((spec_l5Part.f kj1 a0 8 2).bind fun t118 => ((spec_l5Part.f kj1 a0 11 2).bind fun t119 => ((spec_l5Part.f kj1 a0 14 2).bind fun t120 => ((spec_l5Part.f kj1 a0 17 2).bind fun t121 => (if 19 ≤ (a0.size : Int) then (if (a0.extract 19 a0.size).toList = ([90] : List UInt8) then ((spec_DateOk.f kj1 t116 t117 t118 t119 t120 t121 true 0).bind fun t123 => (if t123 = true then (some (t116, t117, t118, t119, t120, t121, true, 0, true)) else (some (0, 0, 0, 0, 0, 0, false, 0, false)))) else (if (a0.extract 19 a0.size).toList = ([] : List UInt8) then ((spec_DateOk.f kj1 t116 t117 t118 t119 t120 t121 false 0).bind fun t124 => (if t124 = true then (some (t116, t117, t118, t119, t120, t121, false, 0, true)) else (some (0, 0, 0, 0, 0, 0, false, 0, false)))) else ((spec_l5Part.f kj1 (a0.extract 19 a0.size) 1 2).bind fun t125 => ((spec_l5Part.f kj1 (a0.extract 19 a0.size) 4 2).bind fun t126 => (if ((a0.extract 19 a0.size).size : Int) = 6 then (if 0 < ((a0.extract 19 a0.size).size : Int) then (if (bt (a0.extract 19 a0.size) 0) = 43 then (if 3 < ((a0.extract 19 a0.size).size : Int) then (if (bt (a0.extract 19 a0.size) 3) = 58 then ((spec_l1In.f t125 0 14).bind fun t127 => (if t127 = true then ((spec_l1In.f t126 0 59).bind fun t128 => (spec_ReadDate.j1 kj1 (a0.extract 19 a0.size) t125 t126 (!t128) t116 t117 t118 t119 t120 t121 false 0)) else (spec_ReadDate.j1 kj1 (a0.extract 19 a0.size) t125 t126 true t116 t117 t118 t119 t120 t121 false 0))) else (spec_ReadDate.j1 kj1 (a0.extract 19 a0.size) t125 t126 true t116 t117 t118 t119 t120 t121 false 0)) else (none)) else (if (bt (a0.extract 19 a0.size) 0) = 45 then (if 3 < ((a0.extract 19 a0.size).size : Int) then (if (bt (a0.extract 19 a0.size) 3) = 58 then ((spec_l1In.f t125 0 14).bind fun t129 => (if t129 = true then ((spec_l1In.f t126 0 59).bind fun t130 => (spec_ReadDate.j1 kj1 (a0.extract 19 a0.size) t125 t126 (!t130) t116 t117 t118 t119 t120 t121 false 0)) else (spec_ReadDate.j1 kj1 (a0.extract 19 a0.size) t125 t126 true t116 t117 t118 t119 t120 t121 false 0))) else (spec_ReadDate.j1 kj1 (a0.extract 19 a0.size) t125 t126 true t116 t117 t118 t119 t120 t121 false 0)) else (none)) else (spec_ReadDate.j1 kj1 (a0.extract 19 a0.size) t125 t126 true t116 t117 t118 t119 t120 t121 false 0))) else (none)) else (spec_ReadDate.j1 kj1 (a0.extract 19 a0.size) t125 t126 true t116 t117 t118 t119 t120 t121 false 0)))))) else (none)))))) = some (r1, r2, r3, r4, r5, r6, r7, r8, r9) := H
    have A23 := Aside0.mk A230
    clear A230
    replace H := Option.bind_eq_some_iff.mp H
    obtain ⟨t118, A240, H⟩ := H
    replace H : ((spec_l5Part.f kj1 a0 11 2).bind fun t119 => ((spec_l5Part.f kj1 a0 14 2).bind fun t120 => ((spec_l5Part.f kj1 a0 17 2).bind fun t121 => (if 19 ≤ (a0.size : Int) then (if (a0.extract 19 a0.size).toList = ([90] : List UInt8) then ((spec_DateOk.f kj1 t116 t117 t118 t119 t120 t121 true 0).bind fun t123 => (if t123 = true then (some (t116, t117, t118, t119, t120, t121, true, 0, true)) else (some (0, 0, 0, 0, 0, 0, false, 0, false)))) else (if (a0.extract 19 a0.size).toList = ([] : List UInt8) then ((spec_DateOk.f kj1 t116 t117 t118 t119 t120 t121 false 0).bind fun t124 => (if t124 = true then (some (t116, t117, t118, t119, t120, t121, false, 0, true)) else (some (0, 0, 0, 0, 0, 0, false, 0, false)))) else ((spec_l5Part.f kj1 (a0.extract 19 a0.size) 1 2).bind fun t125 => ((spec_l5Part.f kj1 (a0.extract 19 a0.size) 4 2).bind fun t126 => (if ((a0.extract 19 a0.size).size : Int) = 6 then (if 0 < ((a0.extract 19 a0.size).size : Int) then (if (bt (a0.extract 19 a0.size) 0) = 43 then (if 3 < ((a0.extract 19 a0.size).size : Int) then (if (bt (a0.extract 19 a0.size) 3) = 58 then ((spec_l1In.f t125 0 14).bind fun t127 => (if t127 = true then ((spec_l1In.f t126 0 59).bind fun t128 => (spec_ReadDate.j1 kj1 (a0.extract 19 a0.size) t125 t126 (!t128) t116 t117 t118 t119 t120 t121 false 0)) else (spec_ReadDate.j1 kj1 (a0.extract 19 a0.size) t125 t126 true t116 t117 t118 t119 t120 t121 false 0))) else (spec_ReadDate.j1 kj1 (a0.extract 19 a0.size) t125 t126 true t116 t117 t118 t119 t120 t121 false 0)) else (none)) else (if (bt (a0.extract 19 a0.size) 0) = 45 then (if 3 < ((a0.extract 19 a0.size).size : Int) then (if (bt (a0.extract 19 a0.size) 3) = 58 then ((spec_l1In.f t125 0 14).bind fun t129 => (if t129 = true then ((spec_l1In.f t126 0 59).bind fun t130 => (spec_ReadDate.j1 kj1 (a0.extract 19 a0.size) t125 t126 (!t130) t116 t117 t118 t119 t120 t121 false 0)) else (spec_ReadDate.j1 kj1 (a0.extract 19 a0.size) t125 t126 true t116 t117 t118 t119 t120 t121 false 0))) else (spec_ReadDate.j1 kj1 (a0.extract 19 a0.size) t125 t126 true t116 t117 t118 t119 t120 t121 false 0)) else (none)) else (spec_ReadDate.j1 kj1 (a0.extract 19 a0.size) t125 t126 true t116 t117 t118 t119 t120 t121 false 0))) else (none)) else (spec_ReadDate.j1 kj1 (a0.extract 19 a0.size) t125 t126 true t116 t117 t118 t119 t120 t121 false 0)))))) else (none))))) = some (r1, r2, r3, r4, r5, r6, r7, r8, r9) := H
    have A24 := Aside0.mk A240
    clear A240
    replace H := Option.bind_eq_some_iff.mp H
    obtain ⟨t119, A250, H⟩ := H
    replace H : ((spec_l5Part.f kj1 a0 14 2).bind fun t120 => ((spec_l5Part.f kj1 a0 17 2).bind fun t121 => (if 19 ≤ (a0.size : Int) then (if (a0.extract 19 a0.size).toList = ([90] : List UInt8) then ((spec_DateOk.f kj1 t116 t117 t118 t119 t120 t121 true 0).bind fun t123 => (if t123 = true then (some (t116, t117, t118, t119, t120, t121, true, 0, true)) else (some (0, 0, 0, 0, 0, 0, false, 0, false)))) else (if (a0.extract 19 a0.size).toList = ([] : List UInt8) then ((spec_DateOk.f kj1 t116 t117 t118 t119 t120 t121 false 0).bind fun t124 => (if t124 = true then (some (t116, t117, t118, t119, t120, t121, false, 0, true)) else (some (0, 0, 0, 0, 0, 0, false, 0, false)))) else ((spec_l5Part.f kj1 (a0.extract 19 a0.size) 1 2).bind fun t125 => ((spec_l5Part.f kj1 (a0.extract 19 a0.size) 4 2).bind fun t126 => (if ((a0.extract 19 a0.size).size : Int) = 6 then (if 0 < ((a0.extract 19 a0.size).size : Int) then (if (bt (a0.extract 19 a0.size) 0) = 43 then (if 3 < ((a0.extract 19 a0.size).size : Int) then (if (bt (a0.extract 19 a0.size) 3) = 58 then ((spec_l1In.f t125 0 14).bind fun t127 => (if t127 = true then ((spec_l1In.f t126 0 59).bind fun t128 => (spec_ReadDate.j1 kj1 (a0.extract 19 a0.size) t125 t126 (!t128) t116 t117 t118 t119 t120 t121 false 0)) else (spec_ReadDate.j1 kj1 (a0.extract 19 a0.size) t125 t126 true t116 t117 t118 t119 t120 t121 false 0))) else (spec_ReadDate.j1 kj1 (a0.extract 19 a0.size) t125 t126 true t116 t117 t118 t119 t120 t121 false 0)) else (none)) else (if (bt (a0.extract 19 a0.size) 0) = 45 then (if 3 < ((a0.extract 19 a0.size).size : Int) then (if (bt (a0.extract 19 a0.size) 3) = 58 then ((spec_l1In.f t125 0 14).bind fun t129 => (if t129 = true then ((spec_l1In.f t126 0 59).bind fun t130 => (spec_ReadDate.j1 kj1 (a0.extract 19 a0.size) t125 t126 (!t130) t116 t117 t118 t119 t120 t121 false 0)) else (spec_ReadDate.j1 kj1 (a0.extract 19 a0.size) t125 t126 true t116 t117 t118 t119 t120 t121 false 0))) else (spec_ReadDate.j1 kj1 (a0.extract 19 a0.size) t125 t126 true t116 t117 t118 t119 t120 t121 false 0)) else (none)) else (spec_ReadDate.j1 kj1 (a0.extract 19 a0.size) t125 t126 true t116 t117 t118 t119 t120 t121 false 0))) else (none)) else (spec_ReadDate.j1 kj1 (a0.extract 19 a0.size) t125 t126 true t116 t117 t118 t119 t120 t121 false 0)))))) else (none)))) = some (r1, r2, r3, r4, r5, r6, r7, r8, r9) := H
    have A25 := Aside0.mk A250
    clear A250
    replace H := Option.bind_eq_some_iff.mp H
    obtain ⟨t120, A260, H⟩ := H
    replace H : ((spec_l5Part.f kj1 a0 17 2).bind fun t121 => (if 19 ≤ (a0.size : Int) then (if (a0.extract 19 a0.size).toList = ([90] : List UInt8) then ((spec_DateOk.f kj1 t116 t117 t118 t119 t120 t121 true 0).bind fun t123 => (if t123 = true then (some (t116, t117, t118, t119, t120, t121, true, 0, true)) else (some (0, 0, 0, 0, 0, 0, false, 0, false)))) else (if (a0.extract 19 a0.size).toList = ([] : List UInt8) then ((spec_DateOk.f kj1 t116 t117 t118 t119 t120 t121 false 0).bind fun t124 => (if t124 = true then (some (t116, t117, t118, t119, t120, t121, false, 0, true)) else (some (0, 0, 0, 0, 0, 0, false, 0, false)))) else ((spec_l5Part.f kj1 (a0.extract 19 a0.size) 1 2).bind fun t125 => ((spec_l5Part.f kj1 (a0.extract 19 a0.size) 4 2).bind fun t126 => (if ((a0.extract 19 a0.size).size : Int) = 6 then (if 0 < ((a0.extract 19 a0.size).size : Int) then (if (bt (a0.extract 19 a0.size) 0) = 43 then (if 3 < ((a0.extract 19 a0.size).size : Int) then (if (bt (a0.extract 19 a0.size) 3) = 58 then ((spec_l1In.f t125 0 14).bind fun t127 => (if t127 = true then ((spec_l1In.f t126 0 59).bind fun t128 => (spec_ReadDate.j1 kj1 (a0.extract 19 a0.size) t125 t126 (!t128) t116 t117 t118 t119 t120 t121 false 0)) else (spec_ReadDate.j1 kj1 (a0.extract 19 a0.size) t125 t126 true t116 t117 t118 t119 t120 t121 false 0))) else (spec_ReadDate.j1 kj1 (a0.extract 19 a0.size) t125 t126 true t116 t117 t118 t119 t120 t121 false 0)) else (none)) else (if (bt (a0.extract 19 a0.size) 0) = 45 then (if 3 < ((a0.extract 19 a0.size).size : Int) then (if (bt (a0.extract 19 a0.size) 3) = 58 then ((spec_l1In.f t125 0 14).bind fun t129 => (if t129 = true then ((spec_l1In.f t126 0 59).bind fun t130 => (spec_ReadDate.j1 kj1 (a0.extract 19 a0.size) t125 t126 (!t130) t116 t117 t118 t119 t120 t121 false 0)) else (spec_ReadDate.j1 kj1 (a0.extract 19 a0.size) t125 t126 true t116 t117 t118 t119 t120 t121 false 0))) else (spec_ReadDate.j1 kj1 (a0.extract 19 a0.size) t125 t126 true t116 t117 t118 t119 t120 t121 false 0)) else (none)) else (spec_ReadDate.j1 kj1 (a0.extract 19 a0.size) t125 t126 true t116 t117 t118 t119 t120 t121 false 0))) else (none)) else (spec_ReadDate.j1 kj1 (a0.extract 19 a0.size) t125 t126 true t116 t117 t118 t119 t120 t121 false 0)))))) else (none))) = some (r1, r2, r3, r4, r5, r6, r7, r8, r9) := H
    have A26 := Aside0.mk A260
    clear A260
    replace H := Option.bind_eq_some_iff.mp H
    obtain ⟨t121, A270, H⟩ := H
    replace H : (if 19 ≤ (a0.size : Int) then (if (a0.extract 19 a0.size).toList = ([90] : List UInt8) then ((spec_DateOk.f kj1 t116 t117 t118 t119 t120 t121 true 0).bind fun t123 => (if t123 = true then (some (t116, t117, t118, t119, t120, t121, true, 0, true)) else (some (0, 0, 0, 0, 0, 0, false, 0, false)))) else (if (a0.extract 19 a0.size).toList = ([] : List UInt8) then ((spec_DateOk.f kj1 t116 t117 t118 t119 t120 t121 false 0).bind fun t124 => (if t124 = true then (some (t116, t117, t118, t119, t120, t121, false, 0, true)) else (some (0, 0, 0, 0, 0, 0, false, 0, false)))) else ((spec_l5Part.f kj1 (a0.extract 19 a0.size) 1 2).bind fun t125 => ((spec_l5Part.f kj1 (a0.extract 19 a0.size) 4 2).bind fun t126 => (if ((a0.extract 19 a0.size).size : Int) = 6 then (if 0 < ((a0.extract 19 a0.size).size : Int) then (if (bt (a0.extract 19 a0.size) 0) = 43 then (if 3 < ((a0.extract 19 a0.size).size : Int) then (if (bt (a0.extract 19 a0.size) 3) = 58 then ((spec_l1In.f t125 0 14).bind fun t127 => (if t127 = true then ((spec_l1In.f t126 0 59).bind fun t128 => (spec_ReadDate.j1 kj1 (a0.extract 19 a0.size) t125 t126 (!t128) t116 t117 t118 t119 t120 t121 false 0)) else (spec_ReadDate.j1 kj1 (a0.extract 19 a0.size) t125 t126 true t116 t117 t118 t119 t120 t121 false 0))) else (spec_ReadDate.j1 kj1 (a0.extract 19 a0.size) t125 t126 true t116 t117 t118 t119 t120 t121 false 0)) else (none)) else (if (bt (a0.extract 19 a0.size) 0) = 45 then (if 3 < ((a0.extract 19 a0.size).size : Int) then (if (bt (a0.extract 19 a0.size) 3) = 58 then ((spec_l1In.f t125 0 14).bind fun t129 => (if t129 = true then ((spec_l1In.f t126 0 59).bind fun t130 => (spec_ReadDate.j1 kj1 (a0.extract 19 a0.size) t125 t126 (!t130) t116 t117 t118 t119 t120 t121 false 0)) else (spec_ReadDate.j1 kj1 (a0.extract 19 a0.size) t125 t126 true t116 t117 t118 t119 t120 t121 false 0))) else (spec_ReadDate.j1 kj1 (a0.extract 19 a0.size) t125 t126 true t116 t117 t118 t119 t120 t121 false 0)) else (none)) else (spec_ReadDate.j1 kj1 (a0.extract 19 a0.size) t125 t126 true t116 t117 t118 t119 t120 t121 false 0))) else (none)) else (spec_ReadDate.j1 kj1 (a0.extract 19 a0.size) t125 t126 true t116 t117 t118 t119 t120 t121 false 0)))))) else (none)) = some (r1, r2, r3, r4, r5, r6, r7, r8, r9) := H
    have A27 := Aside0.mk A270
    clear A270
    by_cases c28 : 19 ≤ (a0.size : Int)
    ·rw [if_pos c28] at H
     have c28b0 := eq_true c28
     have c28b1 : decide (19 ≤ (a0.size : Int)) = true := decide_eq_true c28
     clear c28
     by_cases c29 : (a0.extract 19 a0.size).toList = ([90] : List UInt8)
     ·rw [if_pos c29] at H
      have c29b0 : ((a0.extract 19 a0.size).toList == ([90] : List UInt8)) = true := beq_iff_eq.mpr c29
      have c29b1 : ((a0.extract 19 a0.size).toList != ([90] : List UInt8)) = false := bne_eq_false_iff_eq.mpr c29
      clear c29
      replace H := Option.bind_eq_some_iff.mp H
      obtain ⟨t123, A300, H⟩ := H
      replace H : (if t123 = true then (some (t116, t117, t118, t119, t120, t121, true, 0, true)) else (some (0, 0, 0, 0, 0, 0, false, 0, false))) = some (r1, r2, r3, r4, r5, r6, r7, r8, r9) := H
      have A30 := Aside0.mk A300
      clear A300
      by_cases c31 : t123 = true
      ·subst c31
       have H1 : (some (t116, t117, t118, t119, t120, t121, true, 0, true)) = some (r1, r2, r3, r4, r5, r6, r7, r8, r9) := by rw [if_pos rfl] at H; exact H
       clear H
       have H := H1
       clear H1
       simp only [Option.some.injEq, Prod.mk.injEq] at H
       obtain ⟨rfl, rfl, rfl, rfl, rfl, rfl, rfl, rfl, rfl⟩ := H
       go_wp2_with (first | ((with_reducible refine gate_callee (f := 11) rfl ?_); refine goesL_ (some 38) rfl rfl Tryd.func11 (by kernel_rfl) rfl #[.string a0, .int .i64 0, .int .i64 4] rfl (by (try simp only [List.map_toArray, List.map_cons, List.map_nil]); first | done | rfl | (simp only [List.length_drop, List.length_take]; rfl)) ?_; (with_reducible refine (spec_l5Part.calls kj1 a0 0 4 t116 _ A22.out).mono ?_); rintro e w' ⟨rfl, ⟨nd, rfl⟩⟩; refine ⟨_, rfl, ?_⟩; (try (rw [drewN_self wc]; generalize hq_ : World.drewN wc _ = wc; have n0_ : Aside0 (wc.heap[gb115]? = some (.cells #[.int .i64 0, .int .i64 0, .int .i64 0, .int .i64 0, .int .i64 0, .int .i64 0, .bool false, .int .i64 0] 23 (0, 0))) := ⟨by rw [← hq_]; exact (by (with_reducible repeat (first | refine blk_drewN ?_ _ | refine blk_drew ?_ | refine blk_alloc ?_ _)); exact BK115.out)⟩; have n1_ : Aside0 (Below w.heap.size w wc) := ⟨by rw [← hq_]; exact (by repeat (first | (with_reducible first | exact HB.out | apply below_alloc | apply pw_below_drewN | apply below_drew1 | refine below_set ?_ GE115.out) | exact HB.out))⟩; clear BK115 HB hq_; have BK115 := n0_; have HB := n1_; clear n0_ n1_))) | ((with_reducible refine gate_callee (f := 11) rfl ?_); refine goesL_ (some 40) rfl rfl Tryd.func11 (by kernel_rfl) rfl #[.string a0, .int .i64 5, .int .i64 2] rfl (by (try simp only [List.map_toArray, List.map_cons, List.map_nil]); first | done | rfl | (simp only [List.length_drop, List.length_take]; rfl)) ?_; (with_reducible refine (spec_l5Part.calls kj1 a0 5 2 t117 _ A23.out).mono ?_); rintro e w' ⟨rfl, ⟨nd, rfl⟩⟩; refine ⟨_, rfl, ?_⟩; (try (rw [drewN_self wc]; generalize hq_ : World.drewN wc _ = wc; have n0_ : Aside0 (wc.heap[gb115]? = some (.cells #[.int .i64 0, .int .i64 0, .int .i64 0, .int .i64 0, .int .i64 0, .int .i64 0, .bool false, .int .i64 0] 23 (0, 0))) := ⟨by rw [← hq_]; exact (by (with_reducible repeat (first | refine blk_drewN ?_ _ | refine blk_drew ?_ | refine blk_alloc ?_ _)); exact BK115.out)⟩; have n1_ : Aside0 (Below w.heap.size w wc) := ⟨by rw [← hq_]; exact (by repeat (first | (with_reducible first | exact HB.out | apply below_alloc | apply pw_below_drewN | apply below_drew1 | refine below_set ?_ GE115.out) | exact HB.out))⟩; clear BK115 HB hq_; have BK115 := n0_; have HB := n1_; clear n0_ n1_))) | ((with_reducible refine gate_callee (f := 11) rfl ?_); refine goesL_ (some 42) rfl rfl Tryd.func11 (by kernel_rfl) rfl #[.string a0, .int .i64 8, .int .i64 2] rfl (by (try simp only [List.map_toArray, List.map_cons, List.map_nil]); first | done | rfl | (simp only [List.length_drop, List.length_take]; rfl)) ?_; (with_reducible refine (spec_l5Part.calls kj1 a0 8 2 t118 _ A24.out).mono ?_); rintro e w' ⟨rfl, ⟨nd, rfl⟩⟩; refine ⟨_, rfl, ?_⟩; (try (rw [drewN_self wc]; generalize hq_ : World.drewN wc _ = wc; have n0_ : Aside0 (wc.heap[gb115]? = some (.cells #[.int .i64 0, .int .i64 0, .int .i64 0, .int .i64 0, .int .i64 0, .int .i64 0, .bool false, .int .i64 0] 23 (0, 0))) := ⟨by rw [← hq_]; exact (by (with_reducible repeat (first | refine blk_drewN ?_ _ | refine blk_drew ?_ | refine blk_alloc ?_ _)); exact BK115.out)⟩; have n1_ : Aside0 (Below w.heap.size w wc) := ⟨by rw [← hq_]; exact (by repeat (first | (with_reducible first | exact HB.out | apply below_alloc | apply pw_below_drewN | apply below_drew1 | refine below_set ?_ GE115.out) | exact HB.out))⟩; clear BK115 HB hq_; have BK115 := n0_; have HB := n1_; clear n0_ n1_))) | ((with_reducible refine gate_callee (f := 11) rfl ?_); refine goesL_ (some 44) rfl rfl Tryd.func11 (by kernel_rfl) rfl #[.string a0, .int .i64 11, .int .i64 2] rfl (by (try simp only [List.map_toArray, List.map_cons, List.map_nil]); first | done | rfl | (simp only [List.length_drop, List.length_take]; rfl)) ?_; (with_reducible refine (spec_l5Part.calls kj1 a0 11 2 t119 _ A25.out).mono ?_); rintro e w' ⟨rfl, ⟨nd, rfl⟩⟩; refine ⟨_, rfl, ?_⟩; (try (rw [drewN_self wc]; generalize hq_ : World.drewN wc _ = wc; have n0_ : Aside0 (wc.heap[gb115]? = some (.cells #[.int .i64 0, .int .i64 0, .int .i64 0, .int .i64 0, .int .i64 0, .int .i64 0, .bool false, .int .i64 0] 23 (0, 0))) := ⟨by rw [← hq_]; exact (by (with_reducible repeat (first | refine blk_drewN ?_ _ | refine blk_drew ?_ | refine blk_alloc ?_ _)); exact BK115.out)⟩; have n1_ : Aside0 (Below w.heap.size w wc) := ⟨by rw [← hq_]; exact (by repeat (first | (with_reducible first | exact HB.out | apply below_alloc | apply pw_below_drewN | apply below_drew1 | refine below_set ?_ GE115.out) | exact HB.out))⟩; clear BK115 HB hq_; have BK115 := n0_; have HB := n1_; clear n0_ n1_))) | ((with_reducible refine gate_callee (f := 11) rfl ?_); refine goesL_ (some 46) rfl rfl Tryd.func11 (by kernel_rfl) rfl #[.string a0, .int .i64 14, .int .i64 2] rfl (by (try simp only [List.map_toArray, List.map_cons, List.map_nil]); first | done | rfl | (simp only [List.length_drop, List.length_take]; rfl)) ?_; (with_reducible refine (spec_l5Part.calls kj1 a0 14 2 t120 _ A26.out).mono ?_); rintro e w' ⟨rfl, ⟨nd, rfl⟩⟩; refine ⟨_, rfl, ?_⟩; (try (rw [drewN_self wc]; generalize hq_ : World.drewN wc _ = wc; have n0_ : Aside0 (wc.heap[gb115]? = some (.cells #[.int .i64 0, .int .i64 0, .int .i64 0, .int .i64 0, .int .i64 0, .int .i64 0, .bool false, .int .i64 0] 23 (0, 0))) := ⟨by rw [← hq_]; exact (by (with_reducible repeat (first | refine blk_drewN ?_ _ | refine blk_drew ?_ | refine blk_alloc ?_ _)); exact BK115.out)⟩; have n1_ : Aside0 (Below w.heap.size w wc) := ⟨by rw [← hq_]; exact (by repeat (first | (with_reducible first | exact HB.out | apply below_alloc | apply pw_below_drewN | apply below_drew1 | refine below_set ?_ GE115.out) | exact HB.out))⟩; clear BK115 HB hq_; have BK115 := n0_; have HB := n1_; clear n0_ n1_))) | ((with_reducible refine gate_callee (f := 11) rfl ?_); refine goesL_ (some 48) rfl rfl Tryd.func11 (by kernel_rfl) rfl #[.string a0, .int .i64 17, .int .i64 2] rfl (by (try simp only [List.map_toArray, List.map_cons, List.map_nil]); first | done | rfl | (simp only [List.length_drop, List.length_take]; rfl)) ?_; (with_reducible refine (spec_l5Part.calls kj1 a0 17 2 t121 _ A27.out).mono ?_); rintro e w' ⟨rfl, ⟨nd, rfl⟩⟩; refine ⟨_, rfl, ?_⟩; (try (rw [drewN_self wc]; generalize hq_ : World.drewN wc _ = wc; have n0_ : Aside0 (wc.heap[gb115]? = some (.cells #[.int .i64 0, .int .i64 0, .int .i64 0, .int .i64 0, .int .i64 0, .int .i64 0, .bool false, .int .i64 0] 23 (0, 0))) := ⟨by rw [← hq_]; exact (by (with_reducible repeat (first | refine blk_drewN ?_ _ | refine blk_drew ?_ | refine blk_alloc ?_ _)); exact BK115.out)⟩; have n1_ : Aside0 (Below w.heap.size w wc) := ⟨by rw [← hq_]; exact (by repeat (first | (with_reducible first | exact HB.out | apply below_alloc | apply pw_below_drewN | apply below_drew1 | refine below_set ?_ GE115.out) | exact HB.out))⟩; clear BK115 HB hq_; have BK115 := n0_; have HB := n1_; clear n0_ n1_))) | ((with_reducible refine gate_dst (N := 4) rfl ?_); refine box_event ?hg (N := 4) ?hd (cs := #[.int .i64 0, .int .i64 0, .int .i64 0, .int .i64 0, .int .i64 0, .int .i64 0, .bool false, .int .i64 0]) (t := 23) ?hr ?_; (case hd => rfl); (case hg => rfl); (case hr => first | (go_simp; done) | (go_simp; rfl)); intro gb122 hg w32 hbox hb; have n0_ := Aside0.mk (blk_below (g := gb115) (o := .cells #[.int .i64 0, .int .i64 0, .int .i64 0, .int .i64 0, .int .i64 0, .int .i64 0, .bool false, .int .i64 0] 23 (0, 0)) (by (with_reducible repeat (first | refine blk_drewN ?_ _ | refine blk_drew ?_ | refine blk_alloc ?_ _)); exact BK115.out) hb); have n1_ := Aside0.mk (below_step (by repeat (first | (with_reducible first | exact HB.out | apply below_alloc | apply pw_below_drewN | apply below_drew1 | refine below_set ?_ GE115.out) | exact HB.out)) hb); have n2_ := Aside0.mk (hbox); have n3_ := Aside0.mk ((by rw [hg]; exact (below_size (by repeat (first | (with_reducible first | exact HB.out | apply below_alloc | apply pw_below_drewN | apply below_drew1 | refine below_set ?_ GE115.out) | exact HB.out))) : w.heap.size ≤ gb122)); have n4_ := Aside0.mk ((by rw [hg]; exact (below_size (by repeat (first | (with_reducible first | exact HB.out | apply below_alloc | apply pw_below_drewN | apply below_drew1 | refine below_set ?_ GE115.out) | exact HB.out))) : w.heap.size ≤ gb122)); have n5_ := Aside0.mk ((by rw [hg]; exact Nat.ne_of_lt (blk_lt (g := gb115) (o := .cells #[.int .i64 0, .int .i64 0, .int .i64 0, .int .i64 0, .int .i64 0, .int .i64 0, .bool false, .int .i64 0] 23 (0, 0)) (by (with_reducible repeat (first | refine blk_drewN ?_ _ | refine blk_drew ?_ | refine blk_alloc ?_ _)); exact BK115.out)) : gb115 ≠ gb122)); have n6_ := Aside0.mk ((by rw [hg]; exact Nat.ne_of_gt (blk_lt (g := gb115) (o := .cells #[.int .i64 0, .int .i64 0, .int .i64 0, .int .i64 0, .int .i64 0, .int .i64 0, .bool false, .int .i64 0] 23 (0, 0)) (by (with_reducible repeat (first | refine blk_drewN ?_ _ | refine blk_drew ?_ | refine blk_alloc ?_ _)); exact BK115.out)) : gb122 ≠ gb115)); clear BK115; clear HB; have BK115 := n0_; have HB := n1_; have BK122 := n2_; have GW122 := n3_; have GE122 := n4_; have NB115_122 := n5_; have NB122_115 := n6_; clear n0_ n1_ n2_ n3_ n4_ n5_ n6_; clear hb hbox hg; have hnb33 := NB122_115.out; have hnc33 := NB115_122.out; have hcz34_0 : w32.cell? ⟨gb122, 0, none⟩ = some (.int .i64 0) := (blk_cell BK122.out 0).trans rfl; have hcz34_1 : w32.cell? ⟨gb122, 1, none⟩ = some (.int .i64 0) := (blk_cell BK122.out 1).trans rfl; have hcz34_2 : w32.cell? ⟨gb122, 2, none⟩ = some (.int .i64 0) := (blk_cell BK122.out 2).trans rfl; have hcz34_3 : w32.cell? ⟨gb122, 3, none⟩ = some (.int .i64 0) := (blk_cell BK122.out 3).trans rfl; have hcz34_4 : w32.cell? ⟨gb122, 4, none⟩ = some (.int .i64 0) := (blk_cell BK122.out 4).trans rfl; have hcz34_5 : w32.cell? ⟨gb122, 5, none⟩ = some (.int .i64 0) := (blk_cell BK122.out 5).trans rfl; have hcz34_6 : w32.cell? ⟨gb122, 6, none⟩ = some (.bool false) := (blk_cell BK122.out 6).trans rfl; have hcz34_7 : w32.cell? ⟨gb122, 7, none⟩ = some (.int .i64 0) := (blk_cell BK122.out 7).trans rfl; have hfz34_0 := blk_frozen BK122.out 0; have hfz34_1 := blk_frozen BK122.out 1; have hfz34_2 := blk_frozen BK122.out 2; have hfz34_3 := blk_frozen BK122.out 3; have hfz34_4 := blk_frozen BK122.out 4; have hfz34_5 := blk_frozen BK122.out 5; have hfz34_6 := blk_frozen BK122.out 6; have hfz34_7 := blk_frozen BK122.out 7) | ((with_reducible refine gate_store (t := 23) (p := 4) rfl ?_); refine store_event (t := 23) (p := 4) (v := ?vo_w35) (w1 := ((((((((w32.setCell ⟨gb122, 0, none⟩ (.int .i64 t116)).setCell ⟨gb122, 1, none⟩ (.int .i64 t117)).setCell ⟨gb122, 2, none⟩ (.int .i64 t118)).setCell ⟨gb122, 3, none⟩ (.int .i64 t119)).setCell ⟨gb122, 4, none⟩ (.int .i64 t120)).setCell ⟨gb122, 5, none⟩ (.int .i64 t121)).setCell ⟨gb122, 6, none⟩ (.bool false)).setCell ⟨gb122, 7, none⟩ (.int .i64 0))) ?hg ?ho ?hn ?hr ?_; (case ho => rfl); (case hg => rfl); (case hn => rfl); (case hr => first | (go_simp; done) | (go_simp; rfl)); intro w35 hw; have n0_ : Aside0 (w35.heap[gb115]? = some (.cells #[.int .i64 0, .int .i64 0, .int .i64 0, .int .i64 0, .int .i64 0, .int .i64 0, .bool false, .int .i64 0] 23 (0, 0))) := ⟨(by rw [hw]; exact (by (with_reducible repeat (first | refine blk_drewN ?_ _ | refine blk_drew ?_ | refine blk_alloc ?_ _)); refine blk_far ?_ NB115_122.out _; (with_reducible repeat (first | refine blk_drewN ?_ _ | refine blk_drew ?_ | refine blk_alloc ?_ _)); refine blk_far ?_ NB115_122.out _; (with_reducible repeat (first | refine blk_drewN ?_ _ | refine blk_drew ?_ | refine blk_alloc ?_ _)); refine blk_far ?_ NB115_122.out _; (with_reducible repeat (first | refine blk_drewN ?_ _ | refine blk_drew ?_ | refine blk_alloc ?_ _)); refine blk_far ?_ NB115_122.out _; (with_reducible repeat (first | refine blk_drewN ?_ _ | refine blk_drew ?_ | refine blk_alloc ?_ _)); refine blk_far ?_ NB115_122.out _; (with_reducible repeat (first | refine blk_drewN ?_ _ | refine blk_drew ?_ | refine blk_alloc ?_ _)); refine blk_far ?_ NB115_122.out _; (with_reducible repeat (first | refine blk_drewN ?_ _ | refine blk_drew ?_ | refine blk_alloc ?_ _)); refine blk_far ?_ NB115_122.out _; (with_reducible repeat (first | refine blk_drewN ?_ _ | refine blk_drew ?_ | refine blk_alloc ?_ _)); refine blk_far ?_ NB115_122.out _; (with_reducible repeat (first | refine blk_drewN ?_ _ | refine blk_drew ?_ | refine blk_alloc ?_ _)); exact BK115.out))⟩; have n1_ : Aside0 (w35.heap[gb122]? = some (.cells #[.int .i64 t116, .int .i64 t117, .int .i64 t118, .int .i64 t119, .int .i64 t120, .int .i64 t121, .bool false, .int .i64 0] 23 (0, 0))) := ⟨(by rw [hw]; exact (by (with_reducible repeat (first | refine blk_drewN ?_ _ | refine blk_drew ?_ | refine blk_alloc ?_ _)); refine blk_put (cs := #[.int .i64 t116, .int .i64 t117, .int .i64 t118, .int .i64 t119, .int .i64 t120, .int .i64 t121, .bool false, .int .i64 0]) ?_ 7 _ rfl; (with_reducible repeat (first | refine blk_drewN ?_ _ | refine blk_drew ?_ | refine blk_alloc ?_ _)); refine blk_put (cs := #[.int .i64 t116, .int .i64 t117, .int .i64 t118, .int .i64 t119, .int .i64 t120, .int .i64 t121, .bool false, .int .i64 0]) ?_ 6 _ rfl; (with_reducible repeat (first | refine blk_drewN ?_ _ | refine blk_drew ?_ | refine blk_alloc ?_ _)); refine blk_put (cs := #[.int .i64 t116, .int .i64 t117, .int .i64 t118, .int .i64 t119, .int .i64 t120, .int .i64 0, .bool false, .int .i64 0]) ?_ 5 _ rfl; (with_reducible repeat (first | refine blk_drewN ?_ _ | refine blk_drew ?_ | refine blk_alloc ?_ _)); refine blk_put (cs := #[.int .i64 t116, .int .i64 t117, .int .i64 t118, .int .i64 t119, .int .i64 0, .int .i64 0, .bool false, .int .i64 0]) ?_ 4 _ rfl; (with_reducible repeat (first | refine blk_drewN ?_ _ | refine blk_drew ?_ | refine blk_alloc ?_ _)); refine blk_put (cs := #[.int .i64 t116, .int .i64 t117, .int .i64 t118, .int .i64 0, .int .i64 0, .int .i64 0, .bool false, .int .i64 0]) ?_ 3 _ rfl; (with_reducible repeat (first | refine blk_drewN ?_ _ | refine blk_drew ?_ | refine blk_alloc ?_ _)); refine blk_put (cs := #[.int .i64 t116, .int .i64 t117, .int .i64 0, .int .i64 0, .int .i64 0, .int .i64 0, .bool false, .int .i64 0]) ?_ 2 _ rfl; (with_reducible repeat (first | refine blk_drewN ?_ _ | refine blk_drew ?_ | refine blk_alloc ?_ _)); refine blk_put (cs := #[.int .i64 t116, .int .i64 0, .int .i64 0, .int .i64 0, .int .i64 0, .int .i64 0, .bool false, .int .i64 0]) ?_ 1 _ rfl; (with_reducible repeat (first | refine blk_drewN ?_ _ | refine blk_drew ?_ | refine blk_alloc ?_ _)); refine blk_put (cs := #[.int .i64 0, .int .i64 0, .int .i64 0, .int .i64 0, .int .i64 0, .int .i64 0, .bool false, .int .i64 0]) ?_ 0 _ rfl; (with_reducible repeat (first | refine blk_drewN ?_ _ | refine blk_drew ?_ | refine blk_alloc ?_ _)); exact BK122.out))⟩; have n2_ : Aside0 (Below w.heap.size w w35) := ⟨(by rw [hw]; exact (by repeat (first | (with_reducible first | exact HB.out | apply below_alloc | apply pw_below_drewN | apply below_drew1 | refine below_set ?_ GE115.out | refine below_set ?_ GE122.out) | exact HB.out)))⟩; clear hw; clear BK115; clear BK122; clear HB; have BK115 := n0_; have BK122 := n1_; have HB := n2_; clear n0_ n1_ n2_; have hcz36_0 : w35.cell? ⟨gb122, 0, none⟩ = some (.int .i64 t116) := (blk_cell BK122.out 0).trans rfl; have hcz36_1 : w35.cell? ⟨gb122, 1, none⟩ = some (.int .i64 t117) := (blk_cell BK122.out 1).trans rfl; have hcz36_2 : w35.cell? ⟨gb122, 2, none⟩ = some (.int .i64 t118) := (blk_cell BK122.out 2).trans rfl; have hcz36_3 : w35.cell? ⟨gb122, 3, none⟩ = some (.int .i64 t119) := (blk_cell BK122.out 3).trans rfl; have hcz36_4 : w35.cell? ⟨gb122, 4, none⟩ = some (.int .i64 t120) := (blk_cell BK122.out 4).trans rfl; have hcz36_5 : w35.cell? ⟨gb122, 5, none⟩ = some (.int .i64 t121) := (blk_cell BK122.out 5).trans rfl; have hcz36_6 : w35.cell? ⟨gb122, 6, none⟩ = some (.bool false) := (blk_cell BK122.out 6).trans rfl; have hcz36_7 : w35.cell? ⟨gb122, 7, none⟩ = some (.int .i64 0) := (blk_cell BK122.out 7).trans rfl; have hfz36_0 := blk_frozen BK122.out 0; have hfz36_1 := blk_frozen BK122.out 1; have hfz36_2 := blk_frozen BK122.out 2; have hfz36_3 := blk_frozen BK122.out 3; have hfz36_4 := blk_frozen BK122.out 4; have hfz36_5 := blk_frozen BK122.out 5; have hfz36_6 := blk_frozen BK122.out 6; have hfz36_7 := blk_frozen BK122.out 7) | ((with_reducible refine gate_callee (f := 13) rfl ?_); refine goesL_ (some 106) rfl rfl Tryd.func13 (by kernel_rfl) rfl #[.agg #[.int .i64 t116, .int .i64 t117, .int .i64 t118, .int .i64 t119, .int .i64 t120, .int .i64 t121, .bool true, .int .i64 0]] rfl (by (try simp only [List.map_toArray, List.map_cons, List.map_nil]); first | done | rfl | (simp only [List.length_drop, List.length_take]; rfl)) ?_; (with_reducible refine (spec_DateOk.calls kj1 t116 t117 t118 t119 t120 t121 true 0 true _ A30.out).mono ?_); rintro e w37 ⟨rfl, hb⟩; refine ⟨_, rfl, ?_⟩; have n0_ := Aside0.mk (blk_below (g := gb115) (o := .cells #[.int .i64 0, .int .i64 0, .int .i64 0, .int .i64 0, .int .i64 0, .int .i64 0, .bool false, .int .i64 0] 23 (0, 0)) (by (with_reducible repeat (first | refine blk_drewN ?_ _ | refine blk_drew ?_ | refine blk_alloc ?_ _)); refine blk_far ?_ NB115_122.out _; (with_reducible repeat (first | refine blk_drewN ?_ _ | refine blk_drew ?_ | refine blk_alloc ?_ _)); exact BK115.out) hb); have n1_ := Aside0.mk (blk_below (g := gb122) (o := .cells #[.int .i64 t116, .int .i64 t117, .int .i64 t118, .int .i64 t119, .int .i64 t120, .int .i64 t121, .bool true, .int .i64 0] 23 (0, 0)) (by (with_reducible repeat (first | refine blk_drewN ?_ _ | refine blk_drew ?_ | refine blk_alloc ?_ _)); refine blk_put (cs := #[.int .i64 t116, .int .i64 t117, .int .i64 t118, .int .i64 t119, .int .i64 t120, .int .i64 t121, .bool false, .int .i64 0]) ?_ 6 _ rfl; (with_reducible repeat (first | refine blk_drewN ?_ _ | refine blk_drew ?_ | refine blk_alloc ?_ _)); exact BK122.out) hb); have n2_ := Aside0.mk (below_step (by repeat (first | (with_reducible first | exact HB.out | apply below_alloc | apply pw_below_drewN | apply below_drew1 | refine below_set ?_ GE115.out | refine below_set ?_ GE122.out) | exact HB.out)) hb); clear BK115; clear BK122; clear HB; have BK115 := n0_; have BK122 := n1_; have HB := n2_; clear n0_ n1_ n2_; (try clear hb); (try clear hb2); (try clear hk); (try clear hi); have hcz38_0 : w37.cell? ⟨gb122, 0, none⟩ = some (.int .i64 t116) := (blk_cell BK122.out 0).trans rfl; have hcz38_1 : w37.cell? ⟨gb122, 1, none⟩ = some (.int .i64 t117) := (blk_cell BK122.out 1).trans rfl; have hcz38_2 : w37.cell? ⟨gb122, 2, none⟩ = some (.int .i64 t118) := (blk_cell BK122.out 2).trans rfl; have hcz38_3 : w37.cell? ⟨gb122, 3, none⟩ = some (.int .i64 t119) := (blk_cell BK122.out 3).trans rfl; have hcz38_4 : w37.cell? ⟨gb122, 4, none⟩ = some (.int .i64 t120) := (blk_cell BK122.out 4).trans rfl; have hcz38_5 : w37.cell? ⟨gb122, 5, none⟩ = some (.int .i64 t121) := (blk_cell BK122.out 5).trans rfl; have hcz38_6 : w37.cell? ⟨gb122, 6, none⟩ = some (.bool true) := (blk_cell BK122.out 6).trans rfl; have hcz38_7 : w37.cell? ⟨gb122, 7, none⟩ = some (.int .i64 0) := (blk_cell BK122.out 7).trans rfl; have hfz38_0 := blk_frozen BK122.out 0; have hfz38_1 := blk_frozen BK122.out 1; have hfz38_2 := blk_frozen BK122.out 2; have hfz38_3 := blk_frozen BK122.out 3; have hfz38_4 := blk_frozen BK122.out 4; have hfz38_5 := blk_frozen BK122.out 5; have hfz38_6 := blk_frozen BK122.out 6; have hfz38_7 := blk_frozen BK122.out 7; have hcz39_0 : w37.cell? ⟨gb115, 0, none⟩ = some (.int .i64 0) := (blk_cell BK115.out 0).trans rfl; have hcz39_1 : w37.cell? ⟨gb115, 1, none⟩ = some (.int .i64 0) := (blk_cell BK115.out 1).trans rfl; have hcz39_2 : w37.cell? ⟨gb115, 2, none⟩ = some (.int .i64 0) := (blk_cell BK115.out 2).trans rfl; have hcz39_3 : w37.cell? ⟨gb115, 3, none⟩ = some (.int .i64 0) := (blk_cell BK115.out 3).trans rfl; have hcz39_4 : w37.cell? ⟨gb115, 4, none⟩ = some (.int .i64 0) := (blk_cell BK115.out 4).trans rfl; have hcz39_5 : w37.cell? ⟨gb115, 5, none⟩ = some (.int .i64 0) := (blk_cell BK115.out 5).trans rfl; have hcz39_6 : w37.cell? ⟨gb115, 6, none⟩ = some (.bool false) := (blk_cell BK115.out 6).trans rfl; have hcz39_7 : w37.cell? ⟨gb115, 7, none⟩ = some (.int .i64 0) := (blk_cell BK115.out 7).trans rfl; have hfz39_0 := blk_frozen BK115.out 0; have hfz39_1 := blk_frozen BK115.out 1; have hfz39_2 := blk_frozen BK115.out 2; have hfz39_3 := blk_frozen BK115.out 3; have hfz39_4 := blk_frozen BK115.out 4; have hfz39_5 := blk_frozen BK115.out 5; have hfz39_6 := blk_frozen BK115.out 6; have hfz39_7 := blk_frozen BK115.out 7) | ((with_reducible refine gate_store (t := 23) (p := 2) rfl ?_); refine store_event (t := 23) (p := 2) (v := ?vo_w40) (w1 := ((((((((w37.setCell ⟨gb115, 0, none⟩ (.int .i64 t116)).setCell ⟨gb115, 1, none⟩ (.int .i64 t117)).setCell ⟨gb115, 2, none⟩ (.int .i64 t118)).setCell ⟨gb115, 3, none⟩ (.int .i64 t119)).setCell ⟨gb115, 4, none⟩ (.int .i64 t120)).setCell ⟨gb115, 5, none⟩ (.int .i64 t121)).setCell ⟨gb115, 6, none⟩ (.bool true)).setCell ⟨gb115, 7, none⟩ (.int .i64 0))) ?hg ?ho ?hn ?hr ?_; (case ho => rfl); (case hg => rfl); (case hn => rfl); (case hr => first | (go_simp; done) | (go_simp; rfl)); intro w40 hw; have n0_ : Aside0 (w40.heap[gb115]? = some (.cells #[.int .i64 t116, .int .i64 t117, .int .i64 t118, .int .i64 t119, .int .i64 t120, .int .i64 t121, .bool true, .int .i64 0] 23 (0, 0))) := ⟨(by rw [hw]; exact (by (with_reducible repeat (first | refine blk_drewN ?_ _ | refine blk_drew ?_ | refine blk_alloc ?_ _)); refine blk_put (cs := #[.int .i64 t116, .int .i64 t117, .int .i64 t118, .int .i64 t119, .int .i64 t120, .int .i64 t121, .bool true, .int .i64 0]) ?_ 7 _ rfl; (with_reducible repeat (first | refine blk_drewN ?_ _ | refine blk_drew ?_ | refine blk_alloc ?_ _)); refine blk_put (cs := #[.int .i64 t116, .int .i64 t117, .int .i64 t118, .int .i64 t119, .int .i64 t120, .int .i64 t121, .bool false, .int .i64 0]) ?_ 6 _ rfl; (with_reducible repeat (first | refine blk_drewN ?_ _ | refine blk_drew ?_ | refine blk_alloc ?_ _)); refine blk_put (cs := #[.int .i64 t116, .int .i64 t117, .int .i64 t118, .int .i64 t119, .int .i64 t120, .int .i64 0, .bool false, .int .i64 0]) ?_ 5 _ rfl; (with_reducible repeat (first | refine blk_drewN ?_ _ | refine blk_drew ?_ | refine blk_alloc ?_ _)); refine blk_put (cs := #[.int .i64 t116, .int .i64 t117, .int .i64 t118, .int .i64 t119, .int .i64 0, .int .i64 0, .bool false, .int .i64 0]) ?_ 4 _ rfl; (with_reducible repeat (first | refine blk_drewN ?_ _ | refine blk_drew ?_ | refine blk_alloc ?_ _)); refine blk_put (cs := #[.int .i64 t116, .int .i64 t117, .int .i64 t118, .int .i64 0, .int .i64 0, .int .i64 0, .bool false, .int .i64 0]) ?_ 3 _ rfl; (with_reducible repeat (first | refine blk_drewN ?_ _ | refine blk_drew ?_ | refine blk_alloc ?_ _)); refine blk_put (cs := #[.int .i64 t116, .int .i64 t117, .int .i64 0, .int .i64 0, .int .i64 0, .int .i64 0, .bool false, .int .i64 0]) ?_ 2 _ rfl; (with_reducible repeat (first | refine blk_drewN ?_ _ | refine blk_drew ?_ | refine blk_alloc ?_ _)); refine blk_put (cs := #[.int .i64 t116, .int .i64 0, .int .i64 0, .int .i64 0, .int .i64 0, .int .i64 0, .bool false, .int .i64 0]) ?_ 1 _ rfl; (with_reducible repeat (first | refine blk_drewN ?_ _ | refine blk_drew ?_ | refine blk_alloc ?_ _)); refine blk_put (cs := #[.int .i64 0, .int .i64 0, .int .i64 0, .int .i64 0, .int .i64 0, .int .i64 0, .bool false, .int .i64 0]) ?_ 0 _ rfl; (with_reducible repeat (first | refine blk_drewN ?_ _ | refine blk_drew ?_ | refine blk_alloc ?_ _)); exact BK115.out))⟩; have n1_ : Aside0 (w40.heap[gb122]? = some (.cells #[.int .i64 t116, .int .i64 t117, .int .i64 t118, .int .i64 t119, .int .i64 t120, .int .i64 t121, .bool true, .int .i64 0] 23 (0, 0))) := ⟨(by rw [hw]; exact (by (with_reducible repeat (first | refine blk_drewN ?_ _ | refine blk_drew ?_ | refine blk_alloc ?_ _)); refine blk_far ?_ NB122_115.out _; (with_reducible repeat (first | refine blk_drewN ?_ _ | refine blk_drew ?_ | refine blk_alloc ?_ _)); refine blk_far ?_ NB122_115.out _; (with_reducible repeat (first | refine blk_drewN ?_ _ | refine blk_drew ?_ | refine blk_alloc ?_ _)); refine blk_far ?_ NB122_115.out _; (with_reducible repeat (first | refine blk_drewN ?_ _ | refine blk_drew ?_ | refine blk_alloc ?_ _)); refine blk_far ?_ NB122_115.out _; (with_reducible repeat (first | refine blk_drewN ?_ _ | refine blk_drew ?_ | refine blk_alloc ?_ _)); refine blk_far ?_ NB122_115.out _; (with_reducible repeat (first | refine blk_drewN ?_ _ | refine blk_drew ?_ | refine blk_alloc ?_ _)); refine blk_far ?_ NB122_115.out _; (with_reducible repeat (first | refine blk_drewN ?_ _ | refine blk_drew ?_ | refine blk_alloc ?_ _)); refine blk_far ?_ NB122_115.out _; (with_reducible repeat (first | refine blk_drewN ?_ _ | refine blk_drew ?_ | refine blk_alloc ?_ _)); refine blk_far ?_ NB122_115.out _; (with_reducible repeat (first | refine blk_drewN ?_ _ | refine blk_drew ?_ | refine blk_alloc ?_ _)); exact BK122.out))⟩; have n2_ : Aside0 (Below w.heap.size w w40) := ⟨(by rw [hw]; exact (by repeat (first | (with_reducible first | exact HB.out | apply below_alloc | apply pw_below_drewN | apply below_drew1 | refine below_set ?_ GE115.out | refine below_set ?_ GE122.out) | exact HB.out)))⟩; clear hw; clear BK115; clear BK122; clear HB; have BK115 := n0_; have BK122 := n1_; have HB := n2_; clear n0_ n1_ n2_))
       refine bodyPost_ret (results_ct rfl _ _ gb115 23 #[.int .i64 t116, .int .i64 t117, .int .i64 t118, .int .i64 t119, .int .i64 t120, .int .i64 t121, .bool true, .int .i64 0] (0, 0) _ rfl (by (with_reducible repeat (first | refine blk_drewN ?_ _ | refine blk_drew ?_ | refine blk_alloc ?_ _)); exact BK115.out) Tryd.underlying23 rfl (by kernel_rfl)) rfl ?_
       exact ⟨by first | rfl | (simp only [show ∀ l_ : List UInt8, (l_ != []) = !l_.isEmpty from fun l_ => by cases l_ <;> rfl, show ∀ l_ : List UInt8, (l_ == []) = l_.isEmpty from fun l_ => by cases l_ <;> rfl]; rfl) | (simp [*] <;> rfl), by repeat (first | (with_reducible first | exact HB.out | apply below_alloc | apply pw_below_drewN | apply below_drew1 | refine below_set ?_ GE115.out | refine below_set ?_ GE122.out) | exact HB.out)⟩
      ·replace c31 := Bool.eq_false_iff.mpr c31
       subst c31
       have H1 : (some (0, 0, 0, 0, 0, 0, false, 0, false)) = some (r1, r2, r3, r4, r5, r6, r7, r8, r9) := by rw [if_neg (show ¬ (false = true) by decide)] at H; exact H
       clear H
       have H := H1
       clear H1
       simp only [Option.some.injEq, Prod.mk.injEq] at H
       obtain ⟨rfl, rfl, rfl, rfl, rfl, rfl, rfl, rfl, rfl⟩ := H
       go_wp2_with (first | ((with_reducible refine gate_callee (f := 11) rfl ?_); refine goesL_ (some 38) rfl rfl Tryd.func11 (by kernel_rfl) rfl #[.string a0, .int .i64 0, .int .i64 4] rfl (by (try simp only [List.map_toArray, List.map_cons, List.map_nil]); first | done | rfl | (simp only [List.length_drop, List.length_take]; rfl)) ?_; (with_reducible refine (spec_l5Part.calls kj1 a0 0 4 t116 _ A22.out).mono ?_); rintro e w' ⟨rfl, ⟨nd, rfl⟩⟩; refine ⟨_, rfl, ?_⟩; (try (rw [drewN_self wc]; generalize hq_ : World.drewN wc _ = wc; have n0_ : Aside0 (wc.heap[gb115]? = some (.cells #[.int .i64 0, .int .i64 0, .int .i64 0, .int .i64 0, .int .i64 0, .int .i64 0, .bool false, .int .i64 0] 23 (0, 0))) := ⟨by rw [← hq_]; exact (by (with_reducible repeat (first | refine blk_drewN ?_ _ | refine blk_drew ?_ | refine blk_alloc ?_ _)); exact BK115.out)⟩; have n1_ : Aside0 (Below w.heap.size w wc) := ⟨by rw [← hq_]; exact (by repeat (first | (with_reducible first | exact HB.out | apply below_alloc | apply pw_below_drewN | apply below_drew1 | refine below_set ?_ GE115.out) | exact HB.out))⟩; clear BK115 HB hq_; have BK115 := n0_; have HB := n1_; clear n0_ n1_))) | ((with_reducible refine gate_callee (f := 11) rfl ?_); refine goesL_ (some 40) rfl rfl Tryd.func11 (by kernel_rfl) rfl #[.string a0, .int .i64 5, .int .i64 2] rfl (by (try simp only [List.map_toArray, List.map_cons, List.map_nil]); first | done | rfl | (simp only [List.length_drop, List.length_take]; rfl)) ?_; (with_reducible refine (spec_l5Part.calls kj1 a0 5 2 t117 _ A23.out).mono ?_); rintro e w' ⟨rfl, ⟨nd, rfl⟩⟩; refine ⟨_, rfl, ?_⟩; (try (rw [drewN_self wc]; generalize hq_ : World.drewN wc _ = wc; have n0_ : Aside0 (wc.heap[gb115]? = some (.cells #[.int .i64 0, .int .i64 0, .int .i64 0, .int .i64 0, .int .i64 0, .int .i64 0, .bool false, .int .i64 0] 23 (0, 0))) := ⟨by rw [← hq_]; exact (by (with_reducible repeat (first | refine blk_drewN ?_ _ | refine blk_drew ?_ | refine blk_alloc ?_ _)); exact BK115.out)⟩; have n1_ : Aside0 (Below w.heap.size w wc) := ⟨by rw [← hq_]; exact (by repeat (first | (with_reducible first | exact HB.out | apply below_alloc | apply pw_below_drewN | apply below_drew1 | refine below_set ?_ GE115.out) | exact HB.out))⟩; clear BK115 HB hq_; have BK115 := n0_; have HB := n1_; clear n0_ n1_))) | ((with_reducible refine gate_callee (f := 11) rfl ?_); refine goesL_ (some 42) rfl rfl Tryd.func11 (by kernel_rfl) rfl #[.string a0, .int .i64 8, .int .i64 2] rfl (by (try simp only [List.map_toArray, List.map_cons, List.map_nil]); first | done | rfl | (simp only [List.length_drop, List.length_take]; rfl)) ?_; (with_reducible refine (spec_l5Part.calls kj1 a0 8 2 t118 _ A24.out).mono ?_); rintro e w' ⟨rfl, ⟨nd, rfl⟩⟩; refine ⟨_, rfl, ?_⟩; (try (rw [drewN_self wc]; generalize hq_ : World.drewN wc _ = wc; have n0_ : Aside0 (wc.heap[gb115]? = some (.cells #[.int .i64 0, .int .i64 0, .int .i64 0, .int .i64 0, .int .i64 0, .int .i64 0, .bool false, .int .i64 0] 23 (0, 0))) := ⟨by rw [← hq_]; exact (by (with_reducible repeat (first | refine blk_drewN ?_ _ | refine blk_drew ?_ | refine blk_alloc ?_ _)); exact BK115.out)⟩; have n1_ : Aside0 (Below w.heap.size w wc) := ⟨by rw [← hq_]; exact (by repeat (first | (with_reducible first | exact HB.out | apply below_alloc | apply pw_below_drewN | apply below_drew1 | refine below_set ?_ GE115.out) | exact HB.out))⟩; clear BK115 HB hq_; have BK115 := n0_; have HB := n1_; clear n0_ n1_))) | ((with_reducible refine gate_callee (f := 11) rfl ?_); refine goesL_ (some 44) rfl rfl Tryd.func11 (by kernel_rfl) rfl #[.string a0, .int .i64 11, .int .i64 2] rfl (by (try simp only [List.map_toArray, List.map_cons, List.map_nil]); first | done | rfl | (simp only [List.length_drop, List.length_take]; rfl)) ?_; (with_reducible refine (spec_l5Part.calls kj1 a0 11 2 t119 _ A25.out).mono ?_); rintro e w' ⟨rfl, ⟨nd, rfl⟩⟩; refine ⟨_, rfl, ?_⟩; (try (rw [drewN_self wc]; generalize hq_ : World.drewN wc _ = wc; have n0_ : Aside0 (wc.heap[gb115]? = some (.cells #[.int .i64 0, .int .i64 0, .int .i64 0, .int .i64 0, .int .i64 0, .int .i64 0, .bool false, .int .i64 0] 23 (0, 0))) := ⟨by rw [← hq_]; exact (by (with_reducible repeat (first | refine blk_drewN ?_ _ | refine blk_drew ?_ | refine blk_alloc ?_ _)); exact BK115.out)⟩; have n1_ : Aside0 (Below w.heap.size w wc) := ⟨by rw [← hq_]; exact (by repeat (first | (with_reducible first | exact HB.out | apply below_alloc | apply pw_below_drewN | apply below_drew1 | refine below_set ?_ GE115.out) | exact HB.out))⟩; clear BK115 HB hq_; have BK115 := n0_; have HB := n1_; clear n0_ n1_))) | ((with_reducible refine gate_callee (f := 11) rfl ?_); refine goesL_ (some 46) rfl rfl Tryd.func11 (by kernel_rfl) rfl #[.string a0, .int .i64 14, .int .i64 2] rfl (by (try simp only [List.map_toArray, List.map_cons, List.map_nil]); first | done | rfl | (simp only [List.length_drop, List.length_take]; rfl)) ?_; (with_reducible refine (spec_l5Part.calls kj1 a0 14 2 t120 _ A26.out).mono ?_); rintro e w' ⟨rfl, ⟨nd, rfl⟩⟩; refine ⟨_, rfl, ?_⟩; (try (rw [drewN_self wc]; generalize hq_ : World.drewN wc _ = wc; have n0_ : Aside0 (wc.heap[gb115]? = some (.cells #[.int .i64 0, .int .i64 0, .int .i64 0, .int .i64 0, .int .i64 0, .int .i64 0, .bool false, .int .i64 0] 23 (0, 0))) := ⟨by rw [← hq_]; exact (by (with_reducible repeat (first | refine blk_drewN ?_ _ | refine blk_drew ?_ | refine blk_alloc ?_ _)); exact BK115.out)⟩; have n1_ : Aside0 (Below w.heap.size w wc) := ⟨by rw [← hq_]; exact (by repeat (first | (with_reducible first | exact HB.out | apply below_alloc | apply pw_below_drewN | apply below_drew1 | refine below_set ?_ GE115.out) | exact HB.out))⟩; clear BK115 HB hq_; have BK115 := n0_; have HB := n1_; clear n0_ n1_))) | ((with_reducible refine gate_callee (f := 11) rfl ?_); refine goesL_ (some 48) rfl rfl Tryd.func11 (by kernel_rfl) rfl #[.string a0, .int .i64 17, .int .i64 2] rfl (by (try simp only [List.map_toArray, List.map_cons, List.map_nil]); first | done | rfl | (simp only [List.length_drop, List.length_take]; rfl)) ?_; (with_reducible refine (spec_l5Part.calls kj1 a0 17 2 t121 _ A27.out).mono ?_); rintro e w' ⟨rfl, ⟨nd, rfl⟩⟩; refine ⟨_, rfl, ?_⟩; (try (rw [drewN_self wc]; generalize hq_ : World.drewN wc _ = wc; have n0_ : Aside0 (wc.heap[gb115]? = some (.cells #[.int .i64 0, .int .i64 0, .int .i64 0, .int .i64 0, .int .i64 0, .int .i64 0, .bool false, .int .i64 0] 23 (0, 0))) := ⟨by rw [← hq_]; exact (by (with_reducible repeat (first | refine blk_drewN ?_ _ | refine blk_drew ?_ | refine blk_alloc ?_ _)); exact BK115.out)⟩; have n1_ : Aside0 (Below w.heap.size w wc) := ⟨by rw [← hq_]; exact (by repeat (first | (with_reducible first | exact HB.out | apply below_alloc | apply pw_below_drewN | apply below_drew1 | refine below_set ?_ GE115.out) | exact HB.out))⟩; clear BK115 HB hq_; have BK115 := n0_; have HB := n1_; clear n0_ n1_))) | ((with_reducible refine gate_dst (N := 4) rfl ?_); refine box_event ?hg (N := 4) ?hd (cs := #[.int .i64 0, .int .i64 0, .int .i64 0, .int .i64 0, .int .i64 0, .int .i64 0, .bool false, .int .i64 0]) (t := 23) ?hr ?_; (case hd => rfl); (case hg => rfl); (case hr => first | (go_simp; done) | (go_simp; rfl)); intro gb122 hg w41 hbox hb; have n0_ := Aside0.mk (blk_below (g := gb115) (o := .cells #[.int .i64 0, .int .i64 0, .int .i64 0, .int .i64 0, .int .i64 0, .int .i64 0, .bool false, .int .i64 0] 23 (0, 0)) (by (with_reducible repeat (first | refine blk_drewN ?_ _ | refine blk_drew ?_ | refine blk_alloc ?_ _)); exact BK115.out) hb); have n1_ := Aside0.mk (below_step (by repeat (first | (with_reducible first | exact HB.out | apply below_alloc | apply pw_below_drewN | apply below_drew1 | refine below_set ?_ GE115.out) | exact HB.out)) hb); have n2_ := Aside0.mk (hbox); have n3_ := Aside0.mk ((by rw [hg]; exact (below_size (by repeat (first | (with_reducible first | exact HB.out | apply below_alloc | apply pw_below_drewN | apply below_drew1 | refine below_set ?_ GE115.out) | exact HB.out))) : w.heap.size ≤ gb122)); have n4_ := Aside0.mk ((by rw [hg]; exact (below_size (by repeat (first | (with_reducible first | exact HB.out | apply below_alloc | apply pw_below_drewN | apply below_drew1 | refine below_set ?_ GE115.out) | exact HB.out))) : w.heap.size ≤ gb122)); have n5_ := Aside0.mk ((by rw [hg]; exact Nat.ne_of_lt (blk_lt (g := gb115) (o := .cells #[.int .i64 0, .int .i64 0, .int .i64 0, .int .i64 0, .int .i64 0, .int .i64 0, .bool false, .int .i64 0] 23 (0, 0)) (by (with_reducible repeat (first | refine blk_drewN ?_ _ | refine blk_drew ?_ | refine blk_alloc ?_ _)); exact BK115.out)) : gb115 ≠ gb122)); have n6_ := Aside0.mk ((by rw [hg]; exact Nat.ne_of_gt (blk_lt (g := gb115) (o := .cells #[.int .i64 0, .int .i64 0, .int .i64 0, .int .i64 0, .int .i64 0, .int .i64 0, .bool false, .int .i64 0] 23 (0, 0)) (by (with_reducible repeat (first | refine blk_drewN ?_ _ | refine blk_drew ?_ | refine blk_alloc ?_ _)); exact BK115.out)) : gb122 ≠ gb115)); clear BK115; clear HB; have BK115 := n0_; have HB := n1_; have BK122 := n2_; have GW122 := n3_; have GE122 := n4_; have NB115_122 := n5_; have NB122_115 := n6_; clear n0_ n1_ n2_ n3_ n4_ n5_ n6_; clear hb hbox hg; have hnb42 := NB122_115.out; have hnc42 := NB115_122.out; have hcz43_0 : w41.cell? ⟨gb122, 0, none⟩ = some (.int .i64 0) := (blk_cell BK122.out 0).trans rfl; have hcz43_1 : w41.cell? ⟨gb122, 1, none⟩ = some (.int .i64 0) := (blk_cell BK122.out 1).trans rfl; have hcz43_2 : w41.cell? ⟨gb122, 2, none⟩ = some (.int .i64 0) := (blk_cell BK122.out 2).trans rfl; have hcz43_3 : w41.cell? ⟨gb122, 3, none⟩ = some (.int .i64 0) := (blk_cell BK122.out 3).trans rfl; have hcz43_4 : w41.cell? ⟨gb122, 4, none⟩ = some (.int .i64 0) := (blk_cell BK122.out 4).trans rfl; have hcz43_5 : w41.cell? ⟨gb122, 5, none⟩ = some (.int .i64 0) := (blk_cell BK122.out 5).trans rfl; have hcz43_6 : w41.cell? ⟨gb122, 6, none⟩ = some (.bool false) := (blk_cell BK122.out 6).trans rfl; have hcz43_7 : w41.cell? ⟨gb122, 7, none⟩ = some (.int .i64 0) := (blk_cell BK122.out 7).trans rfl; have hfz43_0 := blk_frozen BK122.out 0; have hfz43_1 := blk_frozen BK122.out 1; have hfz43_2 := blk_frozen BK122.out 2; have hfz43_3 := blk_frozen BK122.out 3; have hfz43_4 := blk_frozen BK122.out 4; have hfz43_5 := blk_frozen BK122.out 5; have hfz43_6 := blk_frozen BK122.out 6; have hfz43_7 := blk_frozen BK122.out 7) | ((with_reducible refine gate_store (t := 23) (p := 4) rfl ?_); refine store_event (t := 23) (p := 4) (v := ?vo_w44) (w1 := ((((((((w41.setCell ⟨gb122, 0, none⟩ (.int .i64 t116)).setCell ⟨gb122, 1, none⟩ (.int .i64 t117)).setCell ⟨gb122, 2, none⟩ (.int .i64 t118)).setCell ⟨gb122, 3, none⟩ (.int .i64 t119)).setCell ⟨gb122, 4, none⟩ (.int .i64 t120)).setCell ⟨gb122, 5, none⟩ (.int .i64 t121)).setCell ⟨gb122, 6, none⟩ (.bool false)).setCell ⟨gb122, 7, none⟩ (.int .i64 0))) ?hg ?ho ?hn ?hr ?_; (case ho => rfl); (case hg => rfl); (case hn => rfl); (case hr => first | (go_simp; done) | (go_simp; rfl)); intro w44 hw; have n0_ : Aside0 (w44.heap[gb115]? = some (.cells #[.int .i64 0, .int .i64 0, .int .i64 0, .int .i64 0, .int .i64 0, .int .i64 0, .bool false, .int .i64 0] 23 (0, 0))) := ⟨(by rw [hw]; exact (by (with_reducible repeat (first | refine blk_drewN ?_ _ | refine blk_drew ?_ | refine blk_alloc ?_ _)); refine blk_far ?_ NB115_122.out _; (with_reducible repeat (first | refine blk_drewN ?_ _ | refine blk_drew ?_ | refine blk_alloc ?_ _)); refine blk_far ?_ NB115_122.out _; (with_reducible repeat (first | refine blk_drewN ?_ _ | refine blk_drew ?_ | refine blk_alloc ?_ _)); refine blk_far ?_ NB115_122.out _; (with_reducible repeat (first | refine blk_drewN ?_ _ | refine blk_drew ?_ | refine blk_alloc ?_ _)); refine blk_far ?_ NB115_122.out _; (with_reducible repeat (first | refine blk_drewN ?_ _ | refine blk_drew ?_ | refine blk_alloc ?_ _)); refine blk_far ?_ NB115_122.out _; (with_reducible repeat (first | refine blk_drewN ?_ _ | refine blk_drew ?_ | refine blk_alloc ?_ _)); refine blk_far ?_ NB115_122.out _; (with_reducible repeat (first | refine blk_drewN ?_ _ | refine blk_drew ?_ | refine blk_alloc ?_ _)); refine blk_far ?_ NB115_122.out _; (with_reducible repeat (first | refine blk_drewN ?_ _ | refine blk_drew ?_ | refine blk_alloc ?_ _)); refine blk_far ?_ NB115_122.out _; (with_reducible repeat (first | refine blk_drewN ?_ _ | refine blk_drew ?_ | refine blk_alloc ?_ _)); exact BK115.out))⟩; have n1_ : Aside0 (w44.heap[gb122]? = some (.cells #[.int .i64 t116, .int .i64 t117, .int .i64 t118, .int .i64 t119, .int .i64 t120, .int .i64 t121, .bool false, .int .i64 0] 23 (0, 0))) := ⟨(by rw [hw]; exact (by (with_reducible repeat (first | refine blk_drewN ?_ _ | refine blk_drew ?_ | refine blk_alloc ?_ _)); refine blk_put (cs := #[.int .i64 t116, .int .i64 t117, .int .i64 t118, .int .i64 t119, .int .i64 t120, .int .i64 t121, .bool false, .int .i64 0]) ?_ 7 _ rfl; (with_reducible repeat (first | refine blk_drewN ?_ _ | refine blk_drew ?_ | refine blk_alloc ?_ _)); refine blk_put (cs := #[.int .i64 t116, .int .i64 t117, .int .i64 t118, .int .i64 t119, .int .i64 t120, .int .i64 t121, .bool false, .int .i64 0]) ?_ 6 _ rfl; (with_reducible repeat (first | refine blk_drewN ?_ _ | refine blk_drew ?_ | refine blk_alloc ?_ _)); refine blk_put (cs := #[.int .i64 t116, .int .i64 t117, .int .i64 t118, .int .i64 t119, .int .i64 t120, .int .i64 0, .bool false, .int .i64 0]) ?_ 5 _ rfl; (with_reducible repeat (first | refine blk_drewN ?_ _ | refine blk_drew ?_ | refine blk_alloc ?_ _)); refine blk_put (cs := #[.int .i64 t116, .int .i64 t117, .int .i64 t118, .int .i64 t119, .int .i64 0, .int .i64 0, .bool false, .int .i64 0]) ?_ 4 _ rfl; (with_reducible repeat (first | refine blk_drewN ?_ _ | refine blk_drew ?_ | refine blk_alloc ?_ _)); refine blk_put (cs := #[.int .i64 t116, .int .i64 t117, .int .i64 t118, .int .i64 0, .int .i64 0, .int .i64 0, .bool false, .int .i64 0]) ?_ 3 _ rfl; (with_reducible repeat (first | refine blk_drewN ?_ _ | refine blk_drew ?_ | refine blk_alloc ?_ _)); refine blk_put (cs := #[.int .i64 t116, .int .i64 t117, .int .i64 0, .int .i64 0, .int .i64 0, .int .i64 0, .bool false, .int .i64 0]) ?_ 2 _ rfl; (with_reducible repeat (first | refine blk_drewN ?_ _ | refine blk_drew ?_ | refine blk_alloc ?_ _)); refine blk_put (cs := #[.int .i64 t116, .int .i64 0, .int .i64 0, .int .i64 0, .int .i64 0, .int .i64 0, .bool false, .int .i64 0]) ?_ 1 _ rfl; (with_reducible repeat (first | refine blk_drewN ?_ _ | refine blk_drew ?_ | refine blk_alloc ?_ _)); refine blk_put (cs := #[.int .i64 0, .int .i64 0, .int .i64 0, .int .i64 0, .int .i64 0, .int .i64 0, .bool false, .int .i64 0]) ?_ 0 _ rfl; (with_reducible repeat (first | refine blk_drewN ?_ _ | refine blk_drew ?_ | refine blk_alloc ?_ _)); exact BK122.out))⟩; have n2_ : Aside0 (Below w.heap.size w w44) := ⟨(by rw [hw]; exact (by repeat (first | (with_reducible first | exact HB.out | apply below_alloc | apply pw_below_drewN | apply below_drew1 | refine below_set ?_ GE115.out | refine below_set ?_ GE122.out) | exact HB.out)))⟩; clear hw; clear BK115; clear BK122; clear HB; have BK115 := n0_; have BK122 := n1_; have HB := n2_; clear n0_ n1_ n2_; have hcz45_0 : w44.cell? ⟨gb122, 0, none⟩ = some (.int .i64 t116) := (blk_cell BK122.out 0).trans rfl; have hcz45_1 : w44.cell? ⟨gb122, 1, none⟩ = some (.int .i64 t117) := (blk_cell BK122.out 1).trans rfl; have hcz45_2 : w44.cell? ⟨gb122, 2, none⟩ = some (.int .i64 t118) := (blk_cell BK122.out 2).trans rfl; have hcz45_3 : w44.cell? ⟨gb122, 3, none⟩ = some (.int .i64 t119) := (blk_cell BK122.out 3).trans rfl; have hcz45_4 : w44.cell? ⟨gb122, 4, none⟩ = some (.int .i64 t120) := (blk_cell BK122.out 4).trans rfl; have hcz45_5 : w44.cell? ⟨gb122, 5, none⟩ = some (.int .i64 t121) := (blk_cell BK122.out 5).trans rfl; have hcz45_6 : w44.cell? ⟨gb122, 6, none⟩ = some (.bool false) := (blk_cell BK122.out 6).trans rfl; have hcz45_7 : w44.cell? ⟨gb122, 7, none⟩ = some (.int .i64 0) := (blk_cell BK122.out 7).trans rfl; have hfz45_0 := blk_frozen BK122.out 0; have hfz45_1 := blk_frozen BK122.out 1; have hfz45_2 := blk_frozen BK122.out 2; have hfz45_3 := blk_frozen BK122.out 3; have hfz45_4 := blk_frozen BK122.out 4; have hfz45_5 := blk_frozen BK122.out 5; have hfz45_6 := blk_frozen BK122.out 6; have hfz45_7 := blk_frozen BK122.out 7) | ((with_reducible refine gate_callee (f := 13) rfl ?_); refine goesL_ (some 106) rfl rfl Tryd.func13 (by kernel_rfl) rfl #[.agg #[.int .i64 t116, .int .i64 t117, .int .i64 t118, .int .i64 t119, .int .i64 t120, .int .i64 t121, .bool true, .int .i64 0]] rfl (by (try simp only [List.map_toArray, List.map_cons, List.map_nil]); first | done | rfl | (simp only [List.length_drop, List.length_take]; rfl)) ?_; (with_reducible refine (spec_DateOk.calls kj1 t116 t117 t118 t119 t120 t121 true 0 false _ A30.out).mono ?_); rintro e w46 ⟨rfl, hb⟩; refine ⟨_, rfl, ?_⟩; have n0_ := Aside0.mk (blk_below (g := gb115) (o := .cells #[.int .i64 0, .int .i64 0, .int .i64 0, .int .i64 0, .int .i64 0, .int .i64 0, .bool false, .int .i64 0] 23 (0, 0)) (by (with_reducible repeat (first | refine blk_drewN ?_ _ | refine blk_drew ?_ | refine blk_alloc ?_ _)); refine blk_far ?_ NB115_122.out _; (with_reducible repeat (first | refine blk_drewN ?_ _ | refine blk_drew ?_ | refine blk_alloc ?_ _)); exact BK115.out) hb); have n1_ := Aside0.mk (blk_below (g := gb122) (o := .cells #[.int .i64 t116, .int .i64 t117, .int .i64 t118, .int .i64 t119, .int .i64 t120, .int .i64 t121, .bool true, .int .i64 0] 23 (0, 0)) (by (with_reducible repeat (first | refine blk_drewN ?_ _ | refine blk_drew ?_ | refine blk_alloc ?_ _)); refine blk_put (cs := #[.int .i64 t116, .int .i64 t117, .int .i64 t118, .int .i64 t119, .int .i64 t120, .int .i64 t121, .bool false, .int .i64 0]) ?_ 6 _ rfl; (with_reducible repeat (first | refine blk_drewN ?_ _ | refine blk_drew ?_ | refine blk_alloc ?_ _)); exact BK122.out) hb); have n2_ := Aside0.mk (below_step (by repeat (first | (with_reducible first | exact HB.out | apply below_alloc | apply pw_below_drewN | apply below_drew1 | refine below_set ?_ GE115.out | refine below_set ?_ GE122.out) | exact HB.out)) hb); clear BK115; clear BK122; clear HB; have BK115 := n0_; have BK122 := n1_; have HB := n2_; clear n0_ n1_ n2_; (try clear hb); (try clear hb2); (try clear hk); (try clear hi); have hcz47_0 : w46.cell? ⟨gb115, 0, none⟩ = some (.int .i64 0) := (blk_cell BK115.out 0).trans rfl; have hcz47_1 : w46.cell? ⟨gb115, 1, none⟩ = some (.int .i64 0) := (blk_cell BK115.out 1).trans rfl; have hcz47_2 : w46.cell? ⟨gb115, 2, none⟩ = some (.int .i64 0) := (blk_cell BK115.out 2).trans rfl; have hcz47_3 : w46.cell? ⟨gb115, 3, none⟩ = some (.int .i64 0) := (blk_cell BK115.out 3).trans rfl; have hcz47_4 : w46.cell? ⟨gb115, 4, none⟩ = some (.int .i64 0) := (blk_cell BK115.out 4).trans rfl; have hcz47_5 : w46.cell? ⟨gb115, 5, none⟩ = some (.int .i64 0) := (blk_cell BK115.out 5).trans rfl; have hcz47_6 : w46.cell? ⟨gb115, 6, none⟩ = some (.bool false) := (blk_cell BK115.out 6).trans rfl; have hcz47_7 : w46.cell? ⟨gb115, 7, none⟩ = some (.int .i64 0) := (blk_cell BK115.out 7).trans rfl; have hfz47_0 := blk_frozen BK115.out 0; have hfz47_1 := blk_frozen BK115.out 1; have hfz47_2 := blk_frozen BK115.out 2; have hfz47_3 := blk_frozen BK115.out 3; have hfz47_4 := blk_frozen BK115.out 4; have hfz47_5 := blk_frozen BK115.out 5; have hfz47_6 := blk_frozen BK115.out 6; have hfz47_7 := blk_frozen BK115.out 7) | ((with_reducible refine gate_store (t := 23) (p := 2) rfl ?_); refine store_event (t := 23) (p := 2) (v := ?vo_w48) (w1 := ((((((((w46.setCell ⟨gb115, 0, none⟩ (.int .i64 0)).setCell ⟨gb115, 1, none⟩ (.int .i64 0)).setCell ⟨gb115, 2, none⟩ (.int .i64 0)).setCell ⟨gb115, 3, none⟩ (.int .i64 0)).setCell ⟨gb115, 4, none⟩ (.int .i64 0)).setCell ⟨gb115, 5, none⟩ (.int .i64 0)).setCell ⟨gb115, 6, none⟩ (.bool false)).setCell ⟨gb115, 7, none⟩ (.int .i64 0))) ?hg ?ho ?hn ?hr ?_; (case ho => rfl); (case hg => rfl); (case hn => rfl); (case hr => first | (go_simp; done) | (go_simp; rfl)); intro w48 hw; have n0_ : Aside0 (w48.heap[gb115]? = some (.cells #[.int .i64 0, .int .i64 0, .int .i64 0, .int .i64 0, .int .i64 0, .int .i64 0, .bool false, .int .i64 0] 23 (0, 0))) := ⟨(by rw [hw]; exact (by (with_reducible repeat (first | refine blk_drewN ?_ _ | refine blk_drew ?_ | refine blk_alloc ?_ _)); refine blk_put (cs := #[.int .i64 0, .int .i64 0, .int .i64 0, .int .i64 0, .int .i64 0, .int .i64 0, .bool false, .int .i64 0]) ?_ 7 _ rfl; (with_reducible repeat (first | refine blk_drewN ?_ _ | refine blk_drew ?_ | refine blk_alloc ?_ _)); refine blk_put (cs := #[.int .i64 0, .int .i64 0, .int .i64 0, .int .i64 0, .int .i64 0, .int .i64 0, .bool false, .int .i64 0]) ?_ 6 _ rfl; (with_reducible repeat (first | refine blk_drewN ?_ _ | refine blk_drew ?_ | refine blk_alloc ?_ _)); refine blk_put (cs := #[.int .i64 0, .int .i64 0, .int .i64 0, .int .i64 0, .int .i64 0, .int .i64 0, .bool false, .int .i64 0]) ?_ 5 _ rfl; (with_reducible repeat (first | refine blk_drewN ?_ _ | refine blk_drew ?_ | refine blk_alloc ?_ _)); refine blk_put (cs := #[.int .i64 0, .int .i64 0, .int .i64 0, .int .i64 0, .int .i64 0, .int .i64 0, .bool false, .int .i64 0]) ?_ 4 _ rfl; (with_reducible repeat (first | refine blk_drewN ?_ _ | refine blk_drew ?_ | refine blk_alloc ?_ _)); refine blk_put (cs := #[.int .i64 0, .int .i64 0, .int .i64 0, .int .i64 0, .int .i64 0, .int .i64 0, .bool false, .int .i64 0]) ?_ 3 _ rfl; (with_reducible repeat (first | refine blk_drewN ?_ _ | refine blk_drew ?_ | refine blk_alloc ?_ _)); refine blk_put (cs := #[.int .i64 0, .int .i64 0, .int .i64 0, .int .i64 0, .int .i64 0, .int .i64 0, .bool false, .int .i64 0]) ?_ 2 _ rfl; (with_reducible repeat (first | refine blk_drewN ?_ _ | refine blk_drew ?_ | refine blk_alloc ?_ _)); refine blk_put (cs := #[.int .i64 0, .int .i64 0, .int .i64 0, .int .i64 0, .int .i64 0, .int .i64 0, .bool false, .int .i64 0]) ?_ 1 _ rfl; (with_reducible repeat (first | refine blk_drewN ?_ _ | refine blk_drew ?_ | refine blk_alloc ?_ _)); refine blk_put (cs := #[.int .i64 0, .int .i64 0, .int .i64 0, .int .i64 0, .int .i64 0, .int .i64 0, .bool false, .int .i64 0]) ?_ 0 _ rfl; (with_reducible repeat (first | refine blk_drewN ?_ _ | refine blk_drew ?_ | refine blk_alloc ?_ _)); exact BK115.out))⟩; have n1_ : Aside0 (w48.heap[gb122]? = some (.cells #[.int .i64 t116, .int .i64 t117, .int .i64 t118, .int .i64 t119, .int .i64 t120, .int .i64 t121, .bool true, .int .i64 0] 23 (0, 0))) := ⟨(by rw [hw]; exact (by (with_reducible repeat (first | refine blk_drewN ?_ _ | refine blk_drew ?_ | refine blk_alloc ?_ _)); refine blk_far ?_ NB122_115.out _; (with_reducible repeat (first | refine blk_drewN ?_ _ | refine blk_drew ?_ | refine blk_alloc ?_ _)); refine blk_far ?_ NB122_115.out _; (with_reducible repeat (first | refine blk_drewN ?_ _ | refine blk_drew ?_ | refine blk_alloc ?_ _)); refine blk_far ?_ NB122_115.out _; (with_reducible repeat (first | refine blk_drewN ?_ _ | refine blk_drew ?_ | refine blk_alloc ?_ _)); refine blk_far ?_ NB122_115.out _; (with_reducible repeat (first | refine blk_drewN ?_ _ | refine blk_drew ?_ | refine blk_alloc ?_ _)); refine blk_far ?_ NB122_115.out _; (with_reducible repeat (first | refine blk_drewN ?_ _ | refine blk_drew ?_ | refine blk_alloc ?_ _)); refine blk_far ?_ NB122_115.out _; (with_reducible repeat (first | refine blk_drewN ?_ _ | refine blk_drew ?_ | refine blk_alloc ?_ _)); refine blk_far ?_ NB122_115.out _; (with_reducible repeat (first | refine blk_drewN ?_ _ | refine blk_drew ?_ | refine blk_alloc ?_ _)); refine blk_far ?_ NB122_115.out _; (with_reducible repeat (first | refine blk_drewN ?_ _ | refine blk_drew ?_ | refine blk_alloc ?_ _)); exact BK122.out))⟩; have n2_ : Aside0 (Below w.heap.size w w48) := ⟨(by rw [hw]; exact (by repeat (first | (with_reducible first | exact HB.out | apply below_alloc | apply pw_below_drewN | apply below_drew1 | refine below_set ?_ GE115.out | refine below_set ?_ GE122.out) | exact HB.out)))⟩; clear hw; clear BK115; clear BK122; clear HB; have BK115 := n0_; have BK122 := n1_; have HB := n2_; clear n0_ n1_ n2_))
       refine bodyPost_ret (results_ct rfl _ _ gb115 23 #[.int .i64 0, .int .i64 0, .int .i64 0, .int .i64 0, .int .i64 0, .int .i64 0, .bool false, .int .i64 0] (0, 0) _ rfl (by (with_reducible repeat (first | refine blk_drewN ?_ _ | refine blk_drew ?_ | refine blk_alloc ?_ _)); exact BK115.out) Tryd.underlying23 rfl (by kernel_rfl)) rfl ?_
       exact ⟨by first | rfl | (simp only [show ∀ l_ : List UInt8, (l_ != []) = !l_.isEmpty from fun l_ => by cases l_ <;> rfl, show ∀ l_ : List UInt8, (l_ == []) = l_.isEmpty from fun l_ => by cases l_ <;> rfl]; rfl) | (simp [*] <;> rfl), by repeat (first | (with_reducible first | exact HB.out | apply below_alloc | apply pw_below_drewN | apply below_drew1 | refine below_set ?_ GE115.out | refine below_set ?_ GE122.out) | exact HB.out)⟩
     ·rw [if_neg c29] at H
      have c29b0 : ((a0.extract 19 a0.size).toList == ([90] : List UInt8)) = false := beq_eq_false_iff_ne.mpr c29
      have c29b1 : ((a0.extract 19 a0.size).toList != ([90] : List UInt8)) = true := bne_iff_ne.mpr c29
      by_cases c49 : (a0.extract 19 a0.size).toList = ([] : List UInt8)
      ·rw [if_pos c49] at H
       have c49b0 : ((a0.extract 19 a0.size).toList == ([] : List UInt8)) = true := beq_iff_eq.mpr c49
       have c49b1 : ((a0.extract 19 a0.size).toList != ([] : List UInt8)) = false := bne_eq_false_iff_eq.mpr c49
       have c49b2 : ((a0.extract 19 a0.size)).toList.isEmpty = true := by (first | exact (List.isEmpty_iff.mpr (eq_of_beq c49b0)) | exact (Bool.eq_false_iff.mpr (fun h_ => by rw [List.isEmpty_iff.mp h_] at c49b0; cases c49b0)))
       clear c49
       replace H := Option.bind_eq_some_iff.mp H
       obtain ⟨t124, A500, H⟩ := H
       replace H : (if t124 = true then (some (t116, t117, t118, t119, t120, t121, false, 0, true)) else (some (0, 0, 0, 0, 0, 0, false, 0, false))) = some (r1, r2, r3, r4, r5, r6, r7, r8, r9) := H
       have A50 := Aside0.mk A500
       clear A500
       by_cases c51 : t124 = true
       ·subst c51
        have H1 : (some (t116, t117, t118, t119, t120, t121, false, 0, true)) = some (r1, r2, r3, r4, r5, r6, r7, r8, r9) := by rw [if_pos rfl] at H; exact H
        clear H
        have H := H1
        clear H1
        simp only [Option.some.injEq, Prod.mk.injEq] at H
        obtain ⟨rfl, rfl, rfl, rfl, rfl, rfl, rfl, rfl, rfl⟩ := H
        go_wp2_with (first | ((with_reducible refine gate_callee (f := 11) rfl ?_); refine goesL_ (some 38) rfl rfl Tryd.func11 (by kernel_rfl) rfl #[.string a0, .int .i64 0, .int .i64 4] rfl (by (try simp only [List.map_toArray, List.map_cons, List.map_nil]); first | done | rfl | (simp only [List.length_drop, List.length_take]; rfl)) ?_; (with_reducible refine (spec_l5Part.calls kj1 a0 0 4 t116 _ A22.out).mono ?_); rintro e w' ⟨rfl, ⟨nd, rfl⟩⟩; refine ⟨_, rfl, ?_⟩; (try (rw [drewN_self wc]; generalize hq_ : World.drewN wc _ = wc; have n0_ : Aside0 (wc.heap[gb115]? = some (.cells #[.int .i64 0, .int .i64 0, .int .i64 0, .int .i64 0, .int .i64 0, .int .i64 0, .bool false, .int .i64 0] 23 (0, 0))) := ⟨by rw [← hq_]; exact (by (with_reducible repeat (first | refine blk_drewN ?_ _ | refine blk_drew ?_ | refine blk_alloc ?_ _)); exact BK115.out)⟩; have n1_ : Aside0 (Below w.heap.size w wc) := ⟨by rw [← hq_]; exact (by repeat (first | (with_reducible first | exact HB.out | apply below_alloc | apply pw_below_drewN | apply below_drew1 | refine below_set ?_ GE115.out) | exact HB.out))⟩; clear BK115 HB hq_; have BK115 := n0_; have HB := n1_; clear n0_ n1_))) | ((with_reducible refine gate_callee (f := 11) rfl ?_); refine goesL_ (some 40) rfl rfl Tryd.func11 (by kernel_rfl) rfl #[.string a0, .int .i64 5, .int .i64 2] rfl (by (try simp only [List.map_toArray, List.map_cons, List.map_nil]); first | done | rfl | (simp only [List.length_drop, List.length_take]; rfl)) ?_; (with_reducible refine (spec_l5Part.calls kj1 a0 5 2 t117 _ A23.out).mono ?_); rintro e w' ⟨rfl, ⟨nd, rfl⟩⟩; refine ⟨_, rfl, ?_⟩; (try (rw [drewN_self wc]; generalize hq_ : World.drewN wc _ = wc; have n0_ : Aside0 (wc.heap[gb115]? = some (.cells #[.int .i64 0, .int .i64 0, .int .i64 0, .int .i64 0, .int .i64 0, .int .i64 0, .bool false, .int .i64 0] 23 (0, 0))) := ⟨by rw [← hq_]; exact (by (with_reducible repeat (first | refine blk_drewN ?_ _ | refine blk_drew ?_ | refine blk_alloc ?_ _)); exact BK115.out)⟩; have n1_ : Aside0 (Below w.heap.size w wc) := ⟨by rw [← hq_]; exact (by repeat (first | (with_reducible first | exact HB.out | apply below_alloc | apply pw_below_drewN | apply below_drew1 | refine below_set ?_ GE115.out) | exact HB.out))⟩; clear BK115 HB hq_; have BK115 := n0_; have HB := n1_; clear n0_ n1_))) | ((with_reducible refine gate_callee (f := 11) rfl ?_); refine goesL_ (some 42) rfl rfl Tryd.func11 (by kernel_rfl) rfl #[.string a0, .int .i64 8, .int .i64 2] rfl (by (try simp only [List.map_toArray, List.map_cons, List.map_nil]); first | done | rfl | (simp only [List.length_drop, List.length_take]; rfl)) ?_; (with_reducible refine (spec_l5Part.calls kj1 a0 8 2 t118 _ A24.out).mono ?_); rintro e w' ⟨rfl, ⟨nd, rfl⟩⟩; refine ⟨_, rfl, ?_⟩; (try (rw [drewN_self wc]; generalize hq_ : World.drewN wc _ = wc; have n0_ : Aside0 (wc.heap[gb115]? = some (.cells #[.int .i64 0, .int .i64 0, .int .i64 0, .int .i64 0, .int .i64 0, .int .i64 0, .bool false, .int .i64 0] 23 (0, 0))) := ⟨by rw [← hq_]; exact (by (with_reducible repeat (first | refine blk_drewN ?_ _ | refine blk_drew ?_ | refine blk_alloc ?_ _)); exact BK115.out)⟩; have n1_ : Aside0 (Below w.heap.size w wc) := ⟨by rw [← hq_]; exact (by repeat (first | (with_reducible first | exact HB.out | apply below_alloc | apply pw_below_drewN | apply below_drew1 | refine below_set ?_ GE115.out) | exact HB.out))⟩; clear BK115 HB hq_; have BK115 := n0_; have HB := n1_; clear n0_ n1_))) | ((with_reducible refine gate_callee (f := 11) rfl ?_); refine goesL_ (some 44) rfl rfl Tryd.func11 (by kernel_rfl) rfl #[.string a0, .int .i64 11, .int .i64 2] rfl (by (try simp only [List.map_toArray, List.map_cons, List.map_nil]); first | done | rfl | (simp only [List.length_drop, List.length_take]; rfl)) ?_; (with_reducible refine (spec_l5Part.calls kj1 a0 11 2 t119 _ A25.out).mono ?_); rintro e w' ⟨rfl, ⟨nd, rfl⟩⟩; refine ⟨_, rfl, ?_⟩; (try (rw [drewN_self wc]; generalize hq_ : World.drewN wc _ = wc; have n0_ : Aside0 (wc.heap[gb115]? = some (.cells #[.int .i64 0, .int .i64 0, .int .i64 0, .int .i64 0, .int .i64 0, .int .i64 0, .bool false, .int .i64 0] 23 (0, 0))) := ⟨by rw [← hq_]; exact (by (with_reducible repeat (first | refine blk_drewN ?_ _ | refine blk_drew ?_ | refine blk_alloc ?_ _)); exact BK115.out)⟩; have n1_ : Aside0 (Below w.heap.size w wc) := ⟨by rw [← hq_]; exact (by repeat (first | (with_reducible first | exact HB.out | apply below_alloc | apply pw_below_drewN | apply below_drew1 | refine below_set ?_ GE115.out) | exact HB.out))⟩; clear BK115 HB hq_; have BK115 := n0_; have HB := n1_; clear n0_ n1_))) | ((with_reducible refine gate_callee (f := 11) rfl ?_); refine goesL_ (some 46) rfl rfl Tryd.func11 (by kernel_rfl) rfl #[.string a0, .int .i64 14, .int .i64 2] rfl (by (try simp only [List.map_toArray, List.map_cons, List.map_nil]); first | done | rfl | (simp only [List.length_drop, List.length_take]; rfl)) ?_; (with_reducible refine (spec_l5Part.calls kj1 a0 14 2 t120 _ A26.out).mono ?_); rintro e w' ⟨rfl, ⟨nd, rfl⟩⟩; refine ⟨_, rfl, ?_⟩; (try (rw [drewN_self wc]; generalize hq_ : World.drewN wc _ = wc; have n0_ : Aside0 (wc.heap[gb115]? = some (.cells #[.int .i64 0, .int .i64 0, .int .i64 0, .int .i64 0, .int .i64 0, .int .i64 0, .bool false, .int .i64 0] 23 (0, 0))) := ⟨by rw [← hq_]; exact (by (with_reducible repeat (first | refine blk_drewN ?_ _ | refine blk_drew ?_ | refine blk_alloc ?_ _)); exact BK115.out)⟩; have n1_ : Aside0 (Below w.heap.size w wc) := ⟨by rw [← hq_]; exact (by repeat (first | (with_reducible first | exact HB.out | apply below_alloc | apply pw_below_drewN | apply below_drew1 | refine below_set ?_ GE115.out) | exact HB.out))⟩; clear BK115 HB hq_; have BK115 := n0_; have HB := n1_; clear n0_ n1_))) | ((with_reducible refine gate_callee (f := 11) rfl ?_); refine goesL_ (some 48) rfl rfl Tryd.func11 (by kernel_rfl) rfl #[.string a0, .int .i64 17, .int .i64 2] rfl (by (try simp only [List.map_toArray, List.map_cons, List.map_nil]); first | done | rfl | (simp only [List.length_drop, List.length_take]; rfl)) ?_; (with_reducible refine (spec_l5Part.calls kj1 a0 17 2 t121 _ A27.out).mono ?_); rintro e w' ⟨rfl, ⟨nd, rfl⟩⟩; refine ⟨_, rfl, ?_⟩; (try (rw [drewN_self wc]; generalize hq_ : World.drewN wc _ = wc; have n0_ : Aside0 (wc.heap[gb115]? = some (.cells #[.int .i64 0, .int .i64 0, .int .i64 0, .int .i64 0, .int .i64 0, .int .i64 0, .bool false, .int .i64 0] 23 (0, 0))) := ⟨by rw [← hq_]; exact (by (with_reducible repeat (first | refine blk_drewN ?_ _ | refine blk_drew ?_ | refine blk_alloc ?_ _)); exact BK115.out)⟩; have n1_ : Aside0 (Below w.heap.size w wc) := ⟨by rw [← hq_]; exact (by repeat (first | (with_reducible first | exact HB.out | apply below_alloc | apply pw_below_drewN | apply below_drew1 | refine below_set ?_ GE115.out) | exact HB.out))⟩; clear BK115 HB hq_; have BK115 := n0_; have HB := n1_; clear n0_ n1_))) | ((with_reducible refine gate_dst (N := 4) rfl ?_); refine box_event ?hg (N := 4) ?hd (cs := #[.int .i64 0, .int .i64 0, .int .i64 0, .int .i64 0, .int .i64 0, .int .i64 0, .bool false, .int .i64 0]) (t := 23) ?hr ?_; (case hd => rfl); (case hg => rfl); (case hr => first | (go_simp; done) | (go_simp; rfl)); intro gb122 hg w52 hbox hb; have n0_ := Aside0.mk (blk_below (g := gb115) (o := .cells #[.int .i64 0, .int .i64 0, .int .i64 0, .int .i64 0, .int .i64 0, .int .i64 0, .bool false, .int .i64 0] 23 (0, 0)) (by (with_reducible repeat (first | refine blk_drewN ?_ _ | refine blk_drew ?_ | refine blk_alloc ?_ _)); exact BK115.out) hb); have n1_ := Aside0.mk (below_step (by repeat (first | (with_reducible first | exact HB.out | apply below_alloc | apply pw_below_drewN | apply below_drew1 | refine below_set ?_ GE115.out) | exact HB.out)) hb); have n2_ := Aside0.mk (hbox); have n3_ := Aside0.mk ((by rw [hg]; exact (below_size (by repeat (first | (with_reducible first | exact HB.out | apply below_alloc | apply pw_below_drewN | apply below_drew1 | refine below_set ?_ GE115.out) | exact HB.out))) : w.heap.size ≤ gb122)); have n4_ := Aside0.mk ((by rw [hg]; exact (below_size (by repeat (first | (with_reducible first | exact HB.out | apply below_alloc | apply pw_below_drewN | apply below_drew1 | refine below_set ?_ GE115.out) | exact HB.out))) : w.heap.size ≤ gb122)); have n5_ := Aside0.mk ((by rw [hg]; exact Nat.ne_of_lt (blk_lt (g := gb115) (o := .cells #[.int .i64 0, .int .i64 0, .int .i64 0, .int .i64 0, .int .i64 0, .int .i64 0, .bool false, .int .i64 0] 23 (0, 0)) (by (with_reducible repeat (first | refine blk_drewN ?_ _ | refine blk_drew ?_ | refine blk_alloc ?_ _)); exact BK115.out)) : gb115 ≠ gb122)); have n6_ := Aside0.mk ((by rw [hg]; exact Nat.ne_of_gt (blk_lt (g := gb115) (o := .cells #[.int .i64 0, .int .i64 0, .int .i64 0, .int .i64 0, .int .i64 0, .int .i64 0, .bool false, .int .i64 0] 23 (0, 0)) (by (with_reducible repeat (first | refine blk_drewN ?_ _ | refine blk_drew ?_ | refine blk_alloc ?_ _)); exact BK115.out)) : gb122 ≠ gb115)); clear BK115; clear HB; have BK115 := n0_; have HB := n1_; have BK122 := n2_; have GW122 := n3_; have GE122 := n4_; have NB115_122 := n5_; have NB122_115 := n6_; clear n0_ n1_ n2_ n3_ n4_ n5_ n6_; clear hb hbox hg; have hnb53 := NB122_115.out; have hnc53 := NB115_122.out; have hcz54_0 : w52.cell? ⟨gb122, 0, none⟩ = some (.int .i64 0) := (blk_cell BK122.out 0).trans rfl; have hcz54_1 : w52.cell? ⟨gb122, 1, none⟩ = some (.int .i64 0) := (blk_cell BK122.out 1).trans rfl; have hcz54_2 : w52.cell? ⟨gb122, 2, none⟩ = some (.int .i64 0) := (blk_cell BK122.out 2).trans rfl; have hcz54_3 : w52.cell? ⟨gb122, 3, none⟩ = some (.int .i64 0) := (blk_cell BK122.out 3).trans rfl; have hcz54_4 : w52.cell? ⟨gb122, 4, none⟩ = some (.int .i64 0) := (blk_cell BK122.out 4).trans rfl; have hcz54_5 : w52.cell? ⟨gb122, 5, none⟩ = some (.int .i64 0) := (blk_cell BK122.out 5).trans rfl; have hcz54_6 : w52.cell? ⟨gb122, 6, none⟩ = some (.bool false) := (blk_cell BK122.out 6).trans rfl; have hcz54_7 : w52.cell? ⟨gb122, 7, none⟩ = some (.int .i64 0) := (blk_cell BK122.out 7).trans rfl; have hfz54_0 := blk_frozen BK122.out 0; have hfz54_1 := blk_frozen BK122.out 1; have hfz54_2 := blk_frozen BK122.out 2; have hfz54_3 := blk_frozen BK122.out 3; have hfz54_4 := blk_frozen BK122.out 4; have hfz54_5 := blk_frozen BK122.out 5; have hfz54_6 := blk_frozen BK122.out 6; have hfz54_7 := blk_frozen BK122.out 7) | ((with_reducible refine gate_store (t := 23) (p := 4) rfl ?_); refine store_event (t := 23) (p := 4) (v := ?vo_w55) (w1 := ((((((((w52.setCell ⟨gb122, 0, none⟩ (.int .i64 t116)).setCell ⟨gb122, 1, none⟩ (.int .i64 t117)).setCell ⟨gb122, 2, none⟩ (.int .i64 t118)).setCell ⟨gb122, 3, none⟩ (.int .i64 t119)).setCell ⟨gb122, 4, none⟩ (.int .i64 t120)).setCell ⟨gb122, 5, none⟩ (.int .i64 t121)).setCell ⟨gb122, 6, none⟩ (.bool false)).setCell ⟨gb122, 7, none⟩ (.int .i64 0))) ?hg ?ho ?hn ?hr ?_; (case ho => rfl); (case hg => rfl); (case hn => rfl); (case hr => first | (go_simp; done) | (go_simp; rfl)); intro w55 hw; have n0_ : Aside0 (w55.heap[gb115]? = some (.cells #[.int .i64 0, .int .i64 0, .int .i64 0, .int .i64 0, .int .i64 0, .int .i64 0, .bool false, .int .i64 0] 23 (0, 0))) := ⟨(by rw [hw]; exact (by (with_reducible repeat (first | refine blk_drewN ?_ _ | refine blk_drew ?_ | refine blk_alloc ?_ _)); refine blk_far ?_ NB115_122.out _; (with_reducible repeat (first | refine blk_drewN ?_ _ | refine blk_drew ?_ | refine blk_alloc ?_ _)); refine blk_far ?_ NB115_122.out _; (with_reducible repeat (first | refine blk_drewN ?_ _ | refine blk_drew ?_ | refine blk_alloc ?_ _)); refine blk_far ?_ NB115_122.out _; (with_reducible repeat (first | refine blk_drewN ?_ _ | refine blk_drew ?_ | refine blk_alloc ?_ _)); refine blk_far ?_ NB115_122.out _; (with_reducible repeat (first | refine blk_drewN ?_ _ | refine blk_drew ?_ | refine blk_alloc ?_ _)); refine blk_far ?_ NB115_122.out _; (with_reducible repeat (first | refine blk_drewN ?_ _ | refine blk_drew ?_ | refine blk_alloc ?_ _)); refine blk_far ?_ NB115_122.out _; (with_reducible repeat (first | refine blk_drewN ?_ _ | refine blk_drew ?_ | refine blk_alloc ?_ _)); refine blk_far ?_ NB115_122.out _; (with_reducible repeat (first | refine blk_drewN ?_ _ | refine blk_drew ?_ | refine blk_alloc ?_ _)); refine blk_far ?_ NB115_122.out _; (with_reducible repeat (first | refine blk_drewN ?_ _ | refine blk_drew ?_ | refine blk_alloc ?_ _)); exact BK115.out))⟩; have n1_ : Aside0 (w55.heap[gb122]? = some (.cells #[.int .i64 t116, .int .i64 t117, .int .i64 t118, .int .i64 t119, .int .i64 t120, .int .i64 t121, .bool false, .int .i64 0] 23 (0, 0))) := ⟨(by rw [hw]; exact (by (with_reducible repeat (first | refine blk_drewN ?_ _ | refine blk_drew ?_ | refine blk_alloc ?_ _)); refine blk_put (cs := #[.int .i64 t116, .int .i64 t117, .int .i64 t118, .int .i64 t119, .int .i64 t120, .int .i64 t121, .bool false, .int .i64 0]) ?_ 7 _ rfl; (with_reducible repeat (first | refine blk_drewN ?_ _ | refine blk_drew ?_ | refine blk_alloc ?_ _)); refine blk_put (cs := #[.int .i64 t116, .int .i64 t117, .int .i64 t118, .int .i64 t119, .int .i64 t120, .int .i64 t121, .bool false, .int .i64 0]) ?_ 6 _ rfl; (with_reducible repeat (first | refine blk_drewN ?_ _ | refine blk_drew ?_ | refine blk_alloc ?_ _)); refine blk_put (cs := #[.int .i64 t116, .int .i64 t117, .int .i64 t118, .int .i64 t119, .int .i64 t120, .int .i64 0, .bool false, .int .i64 0]) ?_ 5 _ rfl; (with_reducible repeat (first | refine blk_drewN ?_ _ | refine blk_drew ?_ | refine blk_alloc ?_ _)); refine blk_put (cs := #[.int .i64 t116, .int .i64 t117, .int .i64 t118, .int .i64 t119, .int .i64 0, .int .i64 0, .bool false, .int .i64 0]) ?_ 4 _ rfl; (with_reducible repeat (first | refine blk_drewN ?_ _ | refine blk_drew ?_ | refine blk_alloc ?_ _)); refine blk_put (cs := #[.int .i64 t116, .int .i64 t117, .int .i64 t118, .int .i64 0, .int .i64 0, .int .i64 0, .bool false, .int .i64 0]) ?_ 3 _ rfl; (with_reducible repeat (first | refine blk_drewN ?_ _ | refine blk_drew ?_ | refine blk_alloc ?_ _)); refine blk_put (cs := #[.int .i64 t116, .int .i64 t117, .int .i64 0, .int .i64 0, .int .i64 0, .int .i64 0, .bool false, .int .i64 0]) ?_ 2 _ rfl; (with_reducible repeat (first | refine blk_drewN ?_ _ | refine blk_drew ?_ | refine blk_alloc ?_ _)); refine blk_put (cs := #[.int .i64 t116, .int .i64 0, .int .i64 0, .int .i64 0, .int .i64 0, .int .i64 0, .bool false, .int .i64 0]) ?_ 1 _ rfl; (with_reducible repeat (first | refine blk_drewN ?_ _ | refine blk_drew ?_ | refine blk_alloc ?_ _)); refine blk_put (cs := #[.int .i64 0, .int .i64 0, .int .i64 0, .int .i64 0, .int .i64 0, .int .i64 0, .bool false, .int .i64 0]) ?_ 0 _ rfl; (with_reducible repeat (first | refine blk_drewN ?_ _ | refine blk_drew ?_ | refine blk_alloc ?_ _)); exact BK122.out))⟩; have n2_ : Aside0 (Below w.heap.size w w55) := ⟨(by rw [hw]; exact (by repeat (first | (with_reducible first | exact HB.out | apply below_alloc | apply pw_below_drewN | apply below_drew1 | refine below_set ?_ GE115.out | refine below_set ?_ GE122.out) | exact HB.out)))⟩; clear hw; clear BK115; clear BK122; clear HB; have BK115 := n0_; have BK122 := n1_; have HB := n2_; clear n0_ n1_ n2_; have hcz56_0 : w55.cell? ⟨gb122, 0, none⟩ = some (.int .i64 t116) := (blk_cell BK122.out 0).trans rfl; have hcz56_1 : w55.cell? ⟨gb122, 1, none⟩ = some (.int .i64 t117) := (blk_cell BK122.out 1).trans rfl; have hcz56_2 : w55.cell? ⟨gb122, 2, none⟩ = some (.int .i64 t118) := (blk_cell BK122.out 2).trans rfl; have hcz56_3 : w55.cell? ⟨gb122, 3, none⟩ = some (.int .i64 t119) := (blk_cell BK122.out 3).trans rfl; have hcz56_4 : w55.cell? ⟨gb122, 4, none⟩ = some (.int .i64 t120) := (blk_cell BK122.out 4).trans rfl; have hcz56_5 : w55.cell? ⟨gb122, 5, none⟩ = some (.int .i64 t121) := (blk_cell BK122.out 5).trans rfl; have hcz56_6 : w55.cell? ⟨gb122, 6, none⟩ = some (.bool false) := (blk_cell BK122.out 6).trans rfl; have hcz56_7 : w55.cell? ⟨gb122, 7, none⟩ = some (.int .i64 0) := (blk_cell BK122.out 7).trans rfl; have hfz56_0 := blk_frozen BK122.out 0; have hfz56_1 := blk_frozen BK122.out 1; have hfz56_2 := blk_frozen BK122.out 2; have hfz56_3 := blk_frozen BK122.out 3; have hfz56_4 := blk_frozen BK122.out 4; have hfz56_5 := blk_frozen BK122.out 5; have hfz56_6 := blk_frozen BK122.out 6; have hfz56_7 := blk_frozen BK122.out 7) | ((with_reducible refine gate_callee (f := 13) rfl ?_); refine goesL_ (some 106) rfl rfl Tryd.func13 (by kernel_rfl) rfl #[.agg #[.int .i64 t116, .int .i64 t117, .int .i64 t118, .int .i64 t119, .int .i64 t120, .int .i64 t121, .bool false, .int .i64 0]] rfl (by (try simp only [List.map_toArray, List.map_cons, List.map_nil]); first | done | rfl | (simp only [List.length_drop, List.length_take]; rfl)) ?_; (with_reducible refine (spec_DateOk.calls kj1 t116 t117 t118 t119 t120 t121 false 0 true _ A50.out).mono ?_); rintro e w57 ⟨rfl, hb⟩; refine ⟨_, rfl, ?_⟩; have n0_ := Aside0.mk (blk_below (g := gb115) (o := .cells #[.int .i64 0, .int .i64 0, .int .i64 0, .int .i64 0, .int .i64 0, .int .i64 0, .bool false, .int .i64 0] 23 (0, 0)) (by (with_reducible repeat (first | refine blk_drewN ?_ _ | refine blk_drew ?_ | refine blk_alloc ?_ _)); exact BK115.out) hb); have n1_ := Aside0.mk (blk_below (g := gb122) (o := .cells #[.int .i64 t116, .int .i64 t117, .int .i64 t118, .int .i64 t119, .int .i64 t120, .int .i64 t121, .bool false, .int .i64 0] 23 (0, 0)) (by (with_reducible repeat (first | refine blk_drewN ?_ _ | refine blk_drew ?_ | refine blk_alloc ?_ _)); exact BK122.out) hb); have n2_ := Aside0.mk (below_step (by repeat (first | (with_reducible first | exact HB.out | apply below_alloc | apply pw_below_drewN | apply below_drew1 | refine below_set ?_ GE115.out | refine below_set ?_ GE122.out) | exact HB.out)) hb); clear BK115; clear BK122; clear HB; have BK115 := n0_; have BK122 := n1_; have HB := n2_; clear n0_ n1_ n2_; (try clear hb); (try clear hb2); (try clear hk); (try clear hi); have hcz58_0 : w57.cell? ⟨gb122, 0, none⟩ = some (.int .i64 t116) := (blk_cell BK122.out 0).trans rfl; have hcz58_1 : w57.cell? ⟨gb122, 1, none⟩ = some (.int .i64 t117) := (blk_cell BK122.out 1).trans rfl; have hcz58_2 : w57.cell? ⟨gb122, 2, none⟩ = some (.int .i64 t118) := (blk_cell BK122.out 2).trans rfl; have hcz58_3 : w57.cell? ⟨gb122, 3, none⟩ = some (.int .i64 t119) := (blk_cell BK122.out 3).trans rfl; have hcz58_4 : w57.cell? ⟨gb122, 4, none⟩ = some (.int .i64 t120) := (blk_cell BK122.out 4).trans rfl; have hcz58_5 : w57.cell? ⟨gb122, 5, none⟩ = some (.int .i64 t121) := (blk_cell BK122.out 5).trans rfl; have hcz58_6 : w57.cell? ⟨gb122, 6, none⟩ = some (.bool false) := (blk_cell BK122.out 6).trans rfl; have hcz58_7 : w57.cell? ⟨gb122, 7, none⟩ = some (.int .i64 0) := (blk_cell BK122.out 7).trans rfl; have hfz58_0 := blk_frozen BK122.out 0; have hfz58_1 := blk_frozen BK122.out 1; have hfz58_2 := blk_frozen BK122.out 2; have hfz58_3 := blk_frozen BK122.out 3; have hfz58_4 := blk_frozen BK122.out 4; have hfz58_5 := blk_frozen BK122.out 5; have hfz58_6 := blk_frozen BK122.out 6; have hfz58_7 := blk_frozen BK122.out 7; have hcz59_0 : w57.cell? ⟨gb115, 0, none⟩ = some (.int .i64 0) := (blk_cell BK115.out 0).trans rfl; have hcz59_1 : w57.cell? ⟨gb115, 1, none⟩ = some (.int .i64 0) := (blk_cell BK115.out 1).trans rfl; have hcz59_2 : w57.cell? ⟨gb115, 2, none⟩ = some (.int .i64 0) := (blk_cell BK115.out 2).trans rfl; have hcz59_3 : w57.cell? ⟨gb115, 3, none⟩ = some (.int .i64 0) := (blk_cell BK115.out 3).trans rfl; have hcz59_4 : w57.cell? ⟨gb115, 4, none⟩ = some (.int .i64 0) := (blk_cell BK115.out 4).trans rfl; have hcz59_5 : w57.cell? ⟨gb115, 5, none⟩ = some (.int .i64 0) := (blk_cell BK115.out 5).trans rfl; have hcz59_6 : w57.cell? ⟨gb115, 6, none⟩ = some (.bool false) := (blk_cell BK115.out 6).trans rfl; have hcz59_7 : w57.cell? ⟨gb115, 7, none⟩ = some (.int .i64 0) := (blk_cell BK115.out 7).trans rfl; have hfz59_0 := blk_frozen BK115.out 0; have hfz59_1 := blk_frozen BK115.out 1; have hfz59_2 := blk_frozen BK115.out 2; have hfz59_3 := blk_frozen BK115.out 3; have hfz59_4 := blk_frozen BK115.out 4; have hfz59_5 := blk_frozen BK115.out 5; have hfz59_6 := blk_frozen BK115.out 6; have hfz59_7 := blk_frozen BK115.out 7) | ((with_reducible refine gate_store (t := 23) (p := 2) rfl ?_); refine store_event (t := 23) (p := 2) (v := ?vo_w60) (w1 := ((((((((w57.setCell ⟨gb115, 0, none⟩ (.int .i64 t116)).setCell ⟨gb115, 1, none⟩ (.int .i64 t117)).setCell ⟨gb115, 2, none⟩ (.int .i64 t118)).setCell ⟨gb115, 3, none⟩ (.int .i64 t119)).setCell ⟨gb115, 4, none⟩ (.int .i64 t120)).setCell ⟨gb115, 5, none⟩ (.int .i64 t121)).setCell ⟨gb115, 6, none⟩ (.bool false)).setCell ⟨gb115, 7, none⟩ (.int .i64 0))) ?hg ?ho ?hn ?hr ?_; (case ho => rfl); (case hg => rfl); (case hn => rfl); (case hr => first | (go_simp; done) | (go_simp; rfl)); intro w60 hw; have n0_ : Aside0 (w60.heap[gb115]? = some (.cells #[.int .i64 t116, .int .i64 t117, .int .i64 t118, .int .i64 t119, .int .i64 t120, .int .i64 t121, .bool false, .int .i64 0] 23 (0, 0))) := ⟨(by rw [hw]; exact (by (with_reducible repeat (first | refine blk_drewN ?_ _ | refine blk_drew ?_ | refine blk_alloc ?_ _)); refine blk_put (cs := #[.int .i64 t116, .int .i64 t117, .int .i64 t118, .int .i64 t119, .int .i64 t120, .int .i64 t121, .bool false, .int .i64 0]) ?_ 7 _ rfl; (with_reducible repeat (first | refine blk_drewN ?_ _ | refine blk_drew ?_ | refine blk_alloc ?_ _)); refine blk_put (cs := #[.int .i64 t116, .int .i64 t117, .int .i64 t118, .int .i64 t119, .int .i64 t120, .int .i64 t121, .bool false, .int .i64 0]) ?_ 6 _ rfl; (with_reducible repeat (first | refine blk_drewN ?_ _ | refine blk_drew ?_ | refine blk_alloc ?_ _)); refine blk_put (cs := #[.int .i64 t116, .int .i64 t117, .int .i64 t118, .int .i64 t119, .int .i64 t120, .int .i64 0, .bool false, .int .i64 0]) ?_ 5 _ rfl; (with_reducible repeat (first | refine blk_drewN ?_ _ | refine blk_drew ?_ | refine blk_alloc ?_ _)); refine blk_put (cs := #[.int .i64 t116, .int .i64 t117, .int .i64 t118, .int .i64 t119, .int .i64 0, .int .i64 0, .bool false, .int .i64 0]) ?_ 4 _ rfl; (with_reducible repeat (first | refine blk_drewN ?_ _ | refine blk_drew ?_ | refine blk_alloc ?_ _)); refine blk_put (cs := #[.int .i64 t116, .int .i64 t117, .int .i64 t118, .int .i64 0, .int .i64 0, .int .i64 0, .bool false, .int .i64 0]) ?_ 3 _ rfl; (with_reducible repeat (first | refine blk_drewN ?_ _ | refine blk_drew ?_ | refine blk_alloc ?_ _)); refine blk_put (cs := #[.int .i64 t116, .int .i64 t117, .int .i64 0, .int .i64 0, .int .i64 0, .int .i64 0, .bool false, .int .i64 0]) ?_ 2 _ rfl; (with_reducible repeat (first | refine blk_drewN ?_ _ | refine blk_drew ?_ | refine blk_alloc ?_ _)); refine blk_put (cs := #[.int .i64 t116, .int .i64 0, .int .i64 0, .int .i64 0, .int .i64 0, .int .i64 0, .bool false, .int .i64 0]) ?_ 1 _ rfl; (with_reducible repeat (first | refine blk_drewN ?_ _ | refine blk_drew ?_ | refine blk_alloc ?_ _)); refine blk_put (cs := #[.int .i64 0, .int .i64 0, .int .i64 0, .int .i64 0, .int .i64 0, .int .i64 0, .bool false, .int .i64 0]) ?_ 0 _ rfl; (with_reducible repeat (first | refine blk_drewN ?_ _ | refine blk_drew ?_ | refine blk_alloc ?_ _)); exact BK115.out))⟩; have n1_ : Aside0 (w60.heap[gb122]? = some (.cells #[.int .i64 t116, .int .i64 t117, .int .i64 t118, .int .i64 t119, .int .i64 t120, .int .i64 t121, .bool false, .int .i64 0] 23 (0, 0))) := ⟨(by rw [hw]; exact (by (with_reducible repeat (first | refine blk_drewN ?_ _ | refine blk_drew ?_ | refine blk_alloc ?_ _)); refine blk_far ?_ NB122_115.out _; (with_reducible repeat (first | refine blk_drewN ?_ _ | refine blk_drew ?_ | refine blk_alloc ?_ _)); refine blk_far ?_ NB122_115.out _; (with_reducible repeat (first | refine blk_drewN ?_ _ | refine blk_drew ?_ | refine blk_alloc ?_ _)); refine blk_far ?_ NB122_115.out _; (with_reducible repeat (first | refine blk_drewN ?_ _ | refine blk_drew ?_ | refine blk_alloc ?_ _)); refine blk_far ?_ NB122_115.out _; (with_reducible repeat (first | refine blk_drewN ?_ _ | refine blk_drew ?_ | refine blk_alloc ?_ _)); refine blk_far ?_ NB122_115.out _; (with_reducible repeat (first | refine blk_drewN ?_ _ | refine blk_drew ?_ | refine blk_alloc ?_ _)); refine blk_far ?_ NB122_115.out _; (with_reducible repeat (first | refine blk_drewN ?_ _ | refine blk_drew ?_ | refine blk_alloc ?_ _)); refine blk_far ?_ NB122_115.out _; (with_reducible repeat (first | refine blk_drewN ?_ _ | refine blk_drew ?_ | refine blk_alloc ?_ _)); refine blk_far ?_ NB122_115.out _; (with_reducible repeat (first | refine blk_drewN ?_ _ | refine blk_drew ?_ | refine blk_alloc ?_ _)); exact BK122.out))⟩; have n2_ : Aside0 (Below w.heap.size w w60) := ⟨(by rw [hw]; exact (by repeat (first | (with_reducible first | exact HB.out | apply below_alloc | apply pw_below_drewN | apply below_drew1 | refine below_set ?_ GE115.out | refine below_set ?_ GE122.out) | exact HB.out)))⟩; clear hw; clear BK115; clear BK122; clear HB; have BK115 := n0_; have BK122 := n1_; have HB := n2_; clear n0_ n1_ n2_))
        refine bodyPost_ret (results_ct rfl _ _ gb115 23 #[.int .i64 t116, .int .i64 t117, .int .i64 t118, .int .i64 t119, .int .i64 t120, .int .i64 t121, .bool false, .int .i64 0] (0, 0) _ rfl (by (with_reducible repeat (first | refine blk_drewN ?_ _ | refine blk_drew ?_ | refine blk_alloc ?_ _)); exact BK115.out) Tryd.underlying23 rfl (by kernel_rfl)) rfl ?_
        exact ⟨by first | rfl | (simp only [show ∀ l_ : List UInt8, (l_ != []) = !l_.isEmpty from fun l_ => by cases l_ <;> rfl, show ∀ l_ : List UInt8, (l_ == []) = l_.isEmpty from fun l_ => by cases l_ <;> rfl]; rfl) | (simp [*] <;> rfl), by repeat (first | (with_reducible first | exact HB.out | apply below_alloc | apply pw_below_drewN | apply below_drew1 | refine below_set ?_ GE115.out | refine below_set ?_ GE122.out) | exact HB.out)⟩
       ·replace c51 := Bool.eq_false_iff.mpr c51
        subst c51
        have H1 : (some (0, 0, 0, 0, 0, 0, false, 0, false)) = some (r1, r2, r3, r4, r5, r6, r7, r8, r9) := by rw [if_neg (show ¬ (false = true) by decide)] at H; exact H
        clear H
        have H := H1
        clear H1
        simp only [Option.some.injEq, Prod.mk.injEq] at H
        obtain ⟨rfl, rfl, rfl, rfl, rfl, rfl, rfl, rfl, rfl⟩ := H
        go_wp2_with (first | ((with_reducible refine gate_callee (f := 11) rfl ?_); refine goesL_ (some 38) rfl rfl Tryd.func11 (by kernel_rfl) rfl #[.string a0, .int .i64 0, .int .i64 4] rfl (by (try simp only [List.map_toArray, List.map_cons, List.map_nil]); first | done | rfl | (simp only [List.length_drop, List.length_take]; rfl)) ?_; (with_reducible refine (spec_l5Part.calls kj1 a0 0 4 t116 _ A22.out).mono ?_); rintro e w' ⟨rfl, ⟨nd, rfl⟩⟩; refine ⟨_, rfl, ?_⟩; (try (rw [drewN_self wc]; generalize hq_ : World.drewN wc _ = wc; have n0_ : Aside0 (wc.heap[gb115]? = some (.cells #[.int .i64 0, .int .i64 0, .int .i64 0, .int .i64 0, .int .i64 0, .int .i64 0, .bool false, .int .i64 0] 23 (0, 0))) := ⟨by rw [← hq_]; exact (by (with_reducible repeat (first | refine blk_drewN ?_ _ | refine blk_drew ?_ | refine blk_alloc ?_ _)); exact BK115.out)⟩; have n1_ : Aside0 (Below w.heap.size w wc) := ⟨by rw [← hq_]; exact (by repeat (first | (with_reducible first | exact HB.out | apply below_alloc | apply pw_below_drewN | apply below_drew1 | refine below_set ?_ GE115.out) | exact HB.out))⟩; clear BK115 HB hq_; have BK115 := n0_; have HB := n1_; clear n0_ n1_))) | ((with_reducible refine gate_callee (f := 11) rfl ?_); refine goesL_ (some 40) rfl rfl Tryd.func11 (by kernel_rfl) rfl #[.string a0, .int .i64 5, .int .i64 2] rfl (by (try simp only [List.map_toArray, List.map_cons, List.map_nil]); first | done | rfl | (simp only [List.length_drop, List.length_take]; rfl)) ?_; (with_reducible refine (spec_l5Part.calls kj1 a0 5 2 t117 _ A23.out).mono ?_); rintro e w' ⟨rfl, ⟨nd, rfl⟩⟩; refine ⟨_, rfl, ?_⟩; (try (rw [drewN_self wc]; generalize hq_ : World.drewN wc _ = wc; have n0_ : Aside0 (wc.heap[gb115]? = some (.cells #[.int .i64 0, .int .i64 0, .int .i64 0, .int .i64 0, .int .i64 0, .int .i64 0, .bool false, .int .i64 0] 23 (0, 0))) := ⟨by rw [← hq_]; exact (by (with_reducible repeat (first | refine blk_drewN ?_ _ | refine blk_drew ?_ | refine blk_alloc ?_ _)); exact BK115.out)⟩; have n1_ : Aside0 (Below w.heap.size w wc) := ⟨by rw [← hq_]; exact (by repeat (first | (with_reducible first | exact HB.out | apply below_alloc | apply pw_below_drewN | apply below_drew1 | refine below_set ?_ GE115.out) | exact HB.out))⟩; clear BK115 HB hq_; have BK115 := n0_; have HB := n1_; clear n0_ n1_))) | ((with_reducible refine gate_callee (f := 11) rfl ?_); refine goesL_ (some 42) rfl rfl Tryd.func11 (by kernel_rfl) rfl #[.string a0, .int .i64 8, .int .i64 2] rfl (by (try simp only [List.map_toArray, List.map_cons, List.map_nil]); first | done | rfl | (simp only [List.length_drop, List.length_take]; rfl)) ?_; (with_reducible refine (spec_l5Part.calls kj1 a0 8 2 t118 _ A24.out).mono ?_); rintro e w' ⟨rfl, ⟨nd, rfl⟩⟩; refine ⟨_, rfl, ?_⟩; (try (rw [drewN_self wc]; generalize hq_ : World.drewN wc _ = wc; have n0_ : Aside0 (wc.heap[gb115]? = some (.cells #[.int .i64 0, .int .i64 0, .int .i64 0, .int .i64 0, .int .i64 0, .int .i64 0, .bool false, .int .i64 0] 23 (0, 0))) := ⟨by rw [← hq_]; exact (by (with_reducible repeat (first | refine blk_drewN ?_ _ | refine blk_drew ?_ | refine blk_alloc ?_ _)); exact BK115.out)⟩; have n1_ : Aside0 (Below w.heap.size w wc) := ⟨by rw [← hq_]; exact (by repeat (first | (with_reducible first | exact HB.out | apply below_alloc | apply pw_below_drewN | apply below_drew1 | refine below_set ?_ GE115.out) | exact HB.out))⟩; clear BK115 HB hq_; have BK115 := n0_; have HB := n1_; clear n0_ n1_))) | ((with_reducible refine gate_callee (f := 11) rfl ?_); refine goesL_ (some 44) rfl rfl Tryd.func11 (by kernel_rfl) rfl #[.string a0, .int .i64 11, .int .i64 2] rfl (by (try simp only [List.map_toArray, List.map_cons, List.map_nil]); first | done | rfl | (simp only [List.length_drop, List.length_take]; rfl)) ?_; (with_reducible refine (spec_l5Part.calls kj1 a0 11 2 t119 _ A25.out).mono ?_); rintro e w' ⟨rfl, ⟨nd, rfl⟩⟩; refine ⟨_, rfl, ?_⟩; (try (rw [drewN_self wc]; generalize hq_ : World.drewN wc _ = wc; have n0_ : Aside0 (wc.heap[gb115]? = some (.cells #[.int .i64 0, .int .i64 0, .int .i64 0, .int .i64 0, .int .i64 0, .int .i64 0, .bool false, .int .i64 0] 23 (0, 0))) := ⟨by rw [← hq_]; exact (by (with_reducible repeat (first | refine blk_drewN ?_ _ | refine blk_drew ?_ | refine blk_alloc ?_ _)); exact BK115.out)⟩; have n1_ : Aside0 (Below w.heap.size w wc) := ⟨by rw [← hq_]; exact (by repeat (first | (with_reducible first | exact HB.out | apply below_alloc | apply pw_below_drewN | apply below_drew1 | refine below_set ?_ GE115.out) | exact HB.out))⟩; clear BK115 HB hq_; have BK115 := n0_; have HB := n1_; clear n0_ n1_))) | ((with_reducible refine gate_callee (f := 11) rfl ?_); refine goesL_ (some 46) rfl rfl Tryd.func11 (by kernel_rfl) rfl #[.string a0, .int .i64 14, .int .i64 2] rfl (by (try simp only [List.map_toArray, List.map_cons, List.map_nil]); first | done | rfl | (simp only [List.length_drop, List.length_take]; rfl)) ?_; (with_reducible refine (spec_l5Part.calls kj1 a0 14 2 t120 _ A26.out).mono ?_); rintro e w' ⟨rfl, ⟨nd, rfl⟩⟩; refine ⟨_, rfl, ?_⟩; (try (rw [drewN_self wc]; generalize hq_ : World.drewN wc _ = wc; have n0_ : Aside0 (wc.heap[gb115]? = some (.cells #[.int .i64 0, .int .i64 0, .int .i64 0, .int .i64 0, .int .i64 0, .int .i64 0, .bool false, .int .i64 0] 23 (0, 0))) := ⟨by rw [← hq_]; exact (by (with_reducible repeat (first | refine blk_drewN ?_ _ | refine blk_drew ?_ | refine blk_alloc ?_ _)); exact BK115.out)⟩; have n1_ : Aside0 (Below w.heap.size w wc) := ⟨by rw [← hq_]; exact (by repeat (first | (with_reducible first | exact HB.out | apply below_alloc | apply pw_below_drewN | apply below_drew1 | refine below_set ?_ GE115.out) | exact HB.out))⟩; clear BK115 HB hq_; have BK115 := n0_; have HB := n1_; clear n0_ n1_))) | ((with_reducible refine gate_callee (f := 11) rfl ?_); refine goesL_ (some 48) rfl rfl Tryd.func11 (by kernel_rfl) rfl #[.string a0, .int .i64 17, .int .i64 2] rfl (by (try simp only [List.map_toArray, List.map_cons, List.map_nil]); first | done | rfl | (simp only [List.length_drop, List.length_take]; rfl)) ?_; (with_reducible refine (spec_l5Part.calls kj1 a0 17 2 t121 _ A27.out).mono ?_); rintro e w' ⟨rfl, ⟨nd, rfl⟩⟩; refine ⟨_, rfl, ?_⟩; (try (rw [drewN_self wc]; generalize hq_ : World.drewN wc _ = wc; have n0_ : Aside0 (wc.heap[gb115]? = some (.cells #[.int .i64 0, .int .i64 0, .int .i64 0, .int .i64 0, .int .i64 0, .int .i64 0, .bool false, .int .i64 0] 23 (0, 0))) := ⟨by rw [← hq_]; exact (by (with_reducible repeat (first | refine blk_drewN ?_ _ | refine blk_drew ?_ | refine blk_alloc ?_ _)); exact BK115.out)⟩; have n1_ : Aside0 (Below w.heap.size w wc) := ⟨by rw [← hq_]; exact (by repeat (first | (with_reducible first | exact HB.out | apply below_alloc | apply pw_below_drewN | apply below_drew1 | refine below_set ?_ GE115.out) | exact HB.out))⟩; clear BK115 HB hq_; have BK115 := n0_; have HB := n1_; clear n0_ n1_))) | ((with_reducible refine gate_dst (N := 4) rfl ?_); refine box_event ?hg (N := 4) ?hd (cs := #[.int .i64 0, .int .i64 0, .int .i64 0, .int .i64 0, .int .i64 0, .int .i64 0, .bool false, .int .i64 0]) (t := 23) ?hr ?_; (case hd => rfl); (case hg => rfl); (case hr => first | (go_simp; done) | (go_simp; rfl)); intro gb122 hg w61 hbox hb; have n0_ := Aside0.mk (blk_below (g := gb115) (o := .cells #[.int .i64 0, .int .i64 0, .int .i64 0, .int .i64 0, .int .i64 0, .int .i64 0, .bool false, .int .i64 0] 23 (0, 0)) (by (with_reducible repeat (first | refine blk_drewN ?_ _ | refine blk_drew ?_ | refine blk_alloc ?_ _)); exact BK115.out) hb); have n1_ := Aside0.mk (below_step (by repeat (first | (with_reducible first | exact HB.out | apply below_alloc | apply pw_below_drewN | apply below_drew1 | refine below_set ?_ GE115.out) | exact HB.out)) hb); have n2_ := Aside0.mk (hbox); have n3_ := Aside0.mk ((by rw [hg]; exact (below_size (by repeat (first | (with_reducible first | exact HB.out | apply below_alloc | apply pw_below_drewN | apply below_drew1 | refine below_set ?_ GE115.out) | exact HB.out))) : w.heap.size ≤ gb122)); have n4_ := Aside0.mk ((by rw [hg]; exact (below_size (by repeat (first | (with_reducible first | exact HB.out | apply below_alloc | apply pw_below_drewN | apply below_drew1 | refine below_set ?_ GE115.out) | exact HB.out))) : w.heap.size ≤ gb122)); have n5_ := Aside0.mk ((by rw [hg]; exact Nat.ne_of_lt (blk_lt (g := gb115) (o := .cells #[.int .i64 0, .int .i64 0, .int .i64 0, .int .i64 0, .int .i64 0, .int .i64 0, .bool false, .int .i64 0] 23 (0, 0)) (by (with_reducible repeat (first | refine blk_drewN ?_ _ | refine blk_drew ?_ | refine blk_alloc ?_ _)); exact BK115.out)) : gb115 ≠ gb122)); have n6_ := Aside0.mk ((by rw [hg]; exact Nat.ne_of_gt (blk_lt (g := gb115) (o := .cells #[.int .i64 0, .int .i64 0, .int .i64 0, .int .i64 0, .int .i64 0, .int .i64 0, .bool false, .int .i64 0] 23 (0, 0)) (by (with_reducible repeat (first | refine blk_drewN ?_ _ | refine blk_drew ?_ | refine blk_alloc ?_ _)); exact BK115.out)) : gb122 ≠ gb115)); clear BK115; clear HB; have BK115 := n0_; have HB := n1_; have BK122 := n2_; have GW122 := n3_; have GE122 := n4_; have NB115_122 := n5_; have NB122_115 := n6_; clear n0_ n1_ n2_ n3_ n4_ n5_ n6_; clear hb hbox hg; have hnb62 := NB122_115.out; have hnc62 := NB115_122.out; have hcz63_0 : w61.cell? ⟨gb122, 0, none⟩ = some (.int .i64 0) := (blk_cell BK122.out 0).trans rfl; have hcz63_1 : w61.cell? ⟨gb122, 1, none⟩ = some (.int .i64 0) := (blk_cell BK122.out 1).trans rfl; have hcz63_2 : w61.cell? ⟨gb122, 2, none⟩ = some (.int .i64 0) := (blk_cell BK122.out 2).trans rfl; have hcz63_3 : w61.cell? ⟨gb122, 3, none⟩ = some (.int .i64 0) := (blk_cell BK122.out 3).trans rfl; have hcz63_4 : w61.cell? ⟨gb122, 4, none⟩ = some (.int .i64 0) := (blk_cell BK122.out 4).trans rfl; have hcz63_5 : w61.cell? ⟨gb122, 5, none⟩ = some (.int .i64 0) := (blk_cell BK122.out 5).trans rfl; have hcz63_6 : w61.cell? ⟨gb122, 6, none⟩ = some (.bool false) := (blk_cell BK122.out 6).trans rfl; have hcz63_7 : w61.cell? ⟨gb122, 7, none⟩ = some (.int .i64 0) := (blk_cell BK122.out 7).trans rfl; have hfz63_0 := blk_frozen BK122.out 0; have hfz63_1 := blk_frozen BK122.out 1; have hfz63_2 := blk_frozen BK122.out 2; have hfz63_3 := blk_frozen BK122.out 3; have hfz63_4 := blk_frozen BK122.out 4; have hfz63_5 := blk_frozen BK122.out 5; have hfz63_6 := blk_frozen BK122.out 6; have hfz63_7 := blk_frozen BK122.out 7) | ((with_reducible refine gate_store (t := 23) (p := 4) rfl ?_); refine store_event (t := 23) (p := 4) (v := ?vo_w64) (w1 := ((((((((w61.setCell ⟨gb122, 0, none⟩ (.int .i64 t116)).setCell ⟨gb122, 1, none⟩ (.int .i64 t117)).setCell ⟨gb122, 2, none⟩ (.int .i64 t118)).setCell ⟨gb122, 3, none⟩ (.int .i64 t119)).setCell ⟨gb122, 4, none⟩ (.int .i64 t120)).setCell ⟨gb122, 5, none⟩ (.int .i64 t121)).setCell ⟨gb122, 6, none⟩ (.bool false)).setCell ⟨gb122, 7, none⟩ (.int .i64 0))) ?hg ?ho ?hn ?hr ?_; (case ho => rfl); (case hg => rfl); (case hn => rfl); (case hr => first | (go_simp; done) | (go_simp; rfl)); intro w64 hw; have n0_ : Aside0 (w64.heap[gb115]? = some (.cells #[.int .i64 0, .int .i64 0, .int .i64 0, .int .i64 0, .int .i64 0, .int .i64 0, .bool false, .int .i64 0] 23 (0, 0))) := ⟨(by rw [hw]; exact (by (with_reducible repeat (first | refine blk_drewN ?_ _ | refine blk_drew ?_ | refine blk_alloc ?_ _)); refine blk_far ?_ NB115_122.out _; (with_reducible repeat (first | refine blk_drewN ?_ _ | refine blk_drew ?_ | refine blk_alloc ?_ _)); refine blk_far ?_ NB115_122.out _; (with_reducible repeat (first | refine blk_drewN ?_ _ | refine blk_drew ?_ | refine blk_alloc ?_ _)); refine blk_far ?_ NB115_122.out _; (with_reducible repeat (first | refine blk_drewN ?_ _ | refine blk_drew ?_ | refine blk_alloc ?_ _)); refine blk_far ?_ NB115_122.out _; (with_reducible repeat (first | refine blk_drewN ?_ _ | refine blk_drew ?_ | refine blk_alloc ?_ _)); refine blk_far ?_ NB115_122.out _; (with_reducible repeat (first | refine blk_drewN ?_ _ | refine blk_drew ?_ | refine blk_alloc ?_ _)); refine blk_far ?_ NB115_122.out _; (with_reducible repeat (first | refine blk_drewN ?_ _ | refine blk_drew ?_ | refine blk_alloc ?_ _)); refine blk_far ?_ NB115_122.out _; (with_reducible repeat (first | refine blk_drewN ?_ _ | refine blk_drew ?_ | refine blk_alloc ?_ _)); refine blk_far ?_ NB115_122.out _; (with_reducible repeat (first | refine blk_drewN ?_ _ | refine blk_drew ?_ | refine blk_alloc ?_ _)); exact BK115.out))⟩; have n1_ : Aside0 (w64.heap[gb122]? = some (.cells #[.int .i64 t116, .int .i64 t117, .int .i64 t118, .int .i64 t119, .int .i64 t120, .int .i64 t121, .bool false, .int .i64 0] 23 (0, 0))) := ⟨(by rw [hw]; exact (by (with_reducible repeat (first | refine blk_drewN ?_ _ | refine blk_drew ?_ | refine blk_alloc ?_ _)); refine blk_put (cs := #[.int .i64 t116, .int .i64 t117, .int .i64 t118, .int .i64 t119, .int .i64 t120, .int .i64 t121, .bool false, .int .i64 0]) ?_ 7 _ rfl; (with_reducible repeat (first | refine blk_drewN ?_ _ | refine blk_drew ?_ | refine blk_alloc ?_ _)); refine blk_put (cs := #[.int .i64 t116, .int .i64 t117, .int .i64 t118, .int .i64 t119, .int .i64 t120, .int .i64 t121, .bool false, .int .i64 0]) ?_ 6 _ rfl; (with_reducible repeat (first | refine blk_drewN ?_ _ | refine blk_drew ?_ | refine blk_alloc ?_ _)); refine blk_put (cs := #[.int .i64 t116, .int .i64 t117, .int .i64 t118, .int .i64 t119, .int .i64 t120, .int .i64 0, .bool false, .int .i64 0]) ?_ 5 _ rfl; (with_reducible repeat (first | refine blk_drewN ?_ _ | refine blk_drew ?_ | refine blk_alloc ?_ _)); refine blk_put (cs := #[.int .i64 t116, .int .i64 t117, .int .i64 t118, .int .i64 t119, .int .i64 0, .int .i64 0, .bool false, .int .i64 0]) ?_ 4 _ rfl; (with_reducible repeat (first | refine blk_drewN ?_ _ | refine blk_drew ?_ | refine blk_alloc ?_ _)); refine blk_put (cs := #[.int .i64 t116, .int .i64 t117, .int .i64 t118, .int .i64 0, .int .i64 0, .int .i64 0, .bool false, .int .i64 0]) ?_ 3 _ rfl; (with_reducible repeat (first | refine blk_drewN ?_ _ | refine blk_drew ?_ | refine blk_alloc ?_ _)); refine blk_put (cs := #[.int .i64 t116, .int .i64 t117, .int .i64 0, .int .i64 0, .int .i64 0, .int .i64 0, .bool false, .int .i64 0]) ?_ 2 _ rfl; (with_reducible repeat (first | refine blk_drewN ?_ _ | refine blk_drew ?_ | refine blk_alloc ?_ _)); refine blk_put (cs := #[.int .i64 t116, .int .i64 0, .int .i64 0, .int .i64 0, .int .i64 0, .int .i64 0, .bool false, .int .i64 0]) ?_ 1 _ rfl; (with_reducible repeat (first | refine blk_drewN ?_ _ | refine blk_drew ?_ | refine blk_alloc ?_ _)); refine blk_put (cs := #[.int .i64 0, .int .i64 0, .int .i64 0, .int .i64 0, .int .i64 0, .int .i64 0, .bool false, .int .i64 0]) ?_ 0 _ rfl; (with_reducible repeat (first | refine blk_drewN ?_ _ | refine blk_drew ?_ | refine blk_alloc ?_ _)); exact BK122.out))⟩; have n2_ : Aside0 (Below w.heap.size w w64) := ⟨(by rw [hw]; exact (by repeat (first | (with_reducible first | exact HB.out | apply below_alloc | apply pw_below_drewN | apply below_drew1 | refine below_set ?_ GE115.out | refine below_set ?_ GE122.out) | exact HB.out)))⟩; clear hw; clear BK115; clear BK122; clear HB; have BK115 := n0_; have BK122 := n1_; have HB := n2_; clear n0_ n1_ n2_; have hcz65_0 : w64.cell? ⟨gb122, 0, none⟩ = some (.int .i64 t116) := (blk_cell BK122.out 0).trans rfl; have hcz65_1 : w64.cell? ⟨gb122, 1, none⟩ = some (.int .i64 t117) := (blk_cell BK122.out 1).trans rfl; have hcz65_2 : w64.cell? ⟨gb122, 2, none⟩ = some (.int .i64 t118) := (blk_cell BK122.out 2).trans rfl; have hcz65_3 : w64.cell? ⟨gb122, 3, none⟩ = some (.int .i64 t119) := (blk_cell BK122.out 3).trans rfl; have hcz65_4 : w64.cell? ⟨gb122, 4, none⟩ = some (.int .i64 t120) := (blk_cell BK122.out 4).trans rfl; have hcz65_5 : w64.cell? ⟨gb122, 5, none⟩ = some (.int .i64 t121) := (blk_cell BK122.out 5).trans rfl; have hcz65_6 : w64.cell? ⟨gb122, 6, none⟩ = some (.bool false) := (blk_cell BK122.out 6).trans rfl; have hcz65_7 : w64.cell? ⟨gb122, 7, none⟩ = some (.int .i64 0) := (blk_cell BK122.out 7).trans rfl; have hfz65_0 := blk_frozen BK122.out 0; have hfz65_1 := blk_frozen BK122.out 1; have hfz65_2 := blk_frozen BK122.out 2; have hfz65_3 := blk_frozen BK122.out 3; have hfz65_4 := blk_frozen BK122.out 4; have hfz65_5 := blk_frozen BK122.out 5; have hfz65_6 := blk_frozen BK122.out 6; have hfz65_7 := blk_frozen BK122.out 7) | ((with_reducible refine gate_callee (f := 13) rfl ?_); refine goesL_ (some 106) rfl rfl Tryd.func13 (by kernel_rfl) rfl #[.agg #[.int .i64 t116, .int .i64 t117, .int .i64 t118, .int .i64 t119, .int .i64 t120, .int .i64 t121, .bool false, .int .i64 0]] rfl (by (try simp only [List.map_toArray, List.map_cons, List.map_nil]); first | done | rfl | (simp only [List.length_drop, List.length_take]; rfl)) ?_; (with_reducible refine (spec_DateOk.calls kj1 t116 t117 t118 t119 t120 t121 false 0 false _ A50.out).mono ?_); rintro e w66 ⟨rfl, hb⟩; refine ⟨_, rfl, ?_⟩; have n0_ := Aside0.mk (blk_below (g := gb115) (o := .cells #[.int .i64 0, .int .i64 0, .int .i64 0, .int .i64 0, .int .i64 0, .int .i64 0, .bool false, .int .i64 0] 23 (0, 0)) (by (with_reducible repeat (first | refine blk_drewN ?_ _ | refine blk_drew ?_ | refine blk_alloc ?_ _)); exact BK115.out) hb); have n1_ := Aside0.mk (blk_below (g := gb122) (o := .cells #[.int .i64 t116, .int .i64 t117, .int .i64 t118, .int .i64 t119, .int .i64 t120, .int .i64 t121, .bool false, .int .i64 0] 23 (0, 0)) (by (with_reducible repeat (first | refine blk_drewN ?_ _ | refine blk_drew ?_ | refine blk_alloc ?_ _)); exact BK122.out) hb); have n2_ := Aside0.mk (below_step (by repeat (first | (with_reducible first | exact HB.out | apply below_alloc | apply pw_below_drewN | apply below_drew1 | refine below_set ?_ GE115.out | refine below_set ?_ GE122.out) | exact HB.out)) hb); clear BK115; clear BK122; clear HB; have BK115 := n0_; have BK122 := n1_; have HB := n2_; clear n0_ n1_ n2_; (try clear hb); (try clear hb2); (try clear hk); (try clear hi); have hcz67_0 : w66.cell? ⟨gb115, 0, none⟩ = some (.int .i64 0) := (blk_cell BK115.out 0).trans rfl; have hcz67_1 : w66.cell? ⟨gb115, 1, none⟩ = some (.int .i64 0) := (blk_cell BK115.out 1).trans rfl; have hcz67_2 : w66.cell? ⟨gb115, 2, none⟩ = some (.int .i64 0) := (blk_cell BK115.out 2).trans rfl; have hcz67_3 : w66.cell? ⟨gb115, 3, none⟩ = some (.int .i64 0) := (blk_cell BK115.out 3).trans rfl; have hcz67_4 : w66.cell? ⟨gb115, 4, none⟩ = some (.int .i64 0) := (blk_cell BK115.out 4).trans rfl; have hcz67_5 : w66.cell? ⟨gb115, 5, none⟩ = some (.int .i64 0) := (blk_cell BK115.out 5).trans rfl; have hcz67_6 : w66.cell? ⟨gb115, 6, none⟩ = some (.bool false) := (blk_cell BK115.out 6).trans rfl; have hcz67_7 : w66.cell? ⟨gb115, 7, none⟩ = some (.int .i64 0) := (blk_cell BK115.out 7).trans rfl; have hfz67_0 := blk_frozen BK115.out 0; have hfz67_1 := blk_frozen BK115.out 1; have hfz67_2 := blk_frozen BK115.out 2; have hfz67_3 := blk_frozen BK115.out 3; have hfz67_4 := blk_frozen BK115.out 4; have hfz67_5 := blk_frozen BK115.out 5; have hfz67_6 := blk_frozen BK115.out 6; have hfz67_7 := blk_frozen BK115.out 7) | ((with_reducible refine gate_store (t := 23) (p := 2) rfl ?_); refine store_event (t := 23) (p := 2) (v := ?vo_w68) (w1 := ((((((((w66.setCell ⟨gb115, 0, none⟩ (.int .i64 0)).setCell ⟨gb115, 1, none⟩ (.int .i64 0)).setCell ⟨gb115, 2, none⟩ (.int .i64 0)).setCell ⟨gb115, 3, none⟩ (.int .i64 0)).setCell ⟨gb115, 4, none⟩ (.int .i64 0)).setCell ⟨gb115, 5, none⟩ (.int .i64 0)).setCell ⟨gb115, 6, none⟩ (.bool false)).setCell ⟨gb115, 7, none⟩ (.int .i64 0))) ?hg ?ho ?hn ?hr ?_; (case ho => rfl); (case hg => rfl); (case hn => rfl); (case hr => first | (go_simp; done) | (go_simp; rfl)); intro w68 hw; have n0_ : Aside0 (w68.heap[gb115]? = some (.cells #[.int .i64 0, .int .i64 0, .int .i64 0, .int .i64 0, .int .i64 0, .int .i64 0, .bool false, .int .i64 0] 23 (0, 0))) := ⟨(by rw [hw]; exact (by (with_reducible repeat (first | refine blk_drewN ?_ _ | refine blk_drew ?_ | refine blk_alloc ?_ _)); refine blk_put (cs := #[.int .i64 0, .int .i64 0, .int .i64 0, .int .i64 0, .int .i64 0, .int .i64 0, .bool false, .int .i64 0]) ?_ 7 _ rfl; (with_reducible repeat (first | refine blk_drewN ?_ _ | refine blk_drew ?_ | refine blk_alloc ?_ _)); refine blk_put (cs := #[.int .i64 0, .int .i64 0, .int .i64 0, .int .i64 0, .int .i64 0, .int .i64 0, .bool false, .int .i64 0]) ?_ 6 _ rfl; (with_reducible repeat (first | refine blk_drewN ?_ _ | refine blk_drew ?_ | refine blk_alloc ?_ _)); refine blk_put (cs := #[.int .i64 0, .int .i64 0, .int .i64 0, .int .i64 0, .int .i64 0, .int .i64 0, .bool false, .int .i64 0]) ?_ 5 _ rfl; (with_reducible repeat (first | refine blk_drewN ?_ _ | refine blk_drew ?_ | refine blk_alloc ?_ _)); refine blk_put (cs := #[.int .i64 0, .int .i64 0, .int .i64 0, .int .i64 0, .int .i64 0, .int .i64 0, .bool false, .int .i64 0]) ?_ 4 _ rfl; (with_reducible repeat (first | refine blk_drewN ?_ _ | refine blk_drew ?_ | refine blk_alloc ?_ _)); refine blk_put (cs := #[.int .i64 0, .int .i64 0, .int .i64 0, .int .i64 0, .int .i64 0, .int .i64 0, .bool false, .int .i64 0]) ?_ 3 _ rfl; (with_reducible repeat (first | refine blk_drewN ?_ _ | refine blk_drew ?_ | refine blk_alloc ?_ _)); refine blk_put (cs := #[.int .i64 0, .int .i64 0, .int .i64 0, .int .i64 0, .int .i64 0, .int .i64 0, .bool false, .int .i64 0]) ?_ 2 _ rfl; (with_reducible repeat (first | refine blk_drewN ?_ _ | refine blk_drew ?_ | refine blk_alloc ?_ _)); refine blk_put (cs := #[.int .i64 0, .int .i64 0, .int .i64 0, .int .i64 0, .int .i64 0, .int .i64 0, .bool false, .int .i64 0]) ?_ 1 _ rfl; (with_reducible repeat (first | refine blk_drewN ?_ _ | refine blk_drew ?_ | refine blk_alloc ?_ _)); refine blk_put (cs := #[.int .i64 0, .int .i64 0, .int .i64 0, .int .i64 0, .int .i64 0, .int .i64 0, .bool false, .int .i64 0]) ?_ 0 _ rfl; (with_reducible repeat (first | refine blk_drewN ?_ _ | refine blk_drew ?_ | refine blk_alloc ?_ _)); exact BK115.out))⟩; have n1_ : Aside0 (w68.heap[gb122]? = some (.cells #[.int .i64 t116, .int .i64 t117, .int .i64 t118, .int .i64 t119, .int .i64 t120, .int .i64 t121, .bool false, .int .i64 0] 23 (0, 0))) := ⟨(by rw [hw]; exact (by (with_reducible repeat (first | refine blk_drewN ?_ _ | refine blk_drew ?_ | refine blk_alloc ?_ _)); refine blk_far ?_ NB122_115.out _; (with_reducible repeat (first | refine blk_drewN ?_ _ | refine blk_drew ?_ | refine blk_alloc ?_ _)); refine blk_far ?_ NB122_115.out _; (with_reducible repeat (first | refine blk_drewN ?_ _ | refine blk_drew ?_ | refine blk_alloc ?_ _)); refine blk_far ?_ NB122_115.out _; (with_reducible repeat (first | refine blk_drewN ?_ _ | refine blk_drew ?_ | refine blk_alloc ?_ _)); refine blk_far ?_ NB122_115.out _; (with_reducible repeat (first | refine blk_drewN ?_ _ | refine blk_drew ?_ | refine blk_alloc ?_ _)); refine blk_far ?_ NB122_115.out _; (with_reducible repeat (first | refine blk_drewN ?_ _ | refine blk_drew ?_ | refine blk_alloc ?_ _)); refine blk_far ?_ NB122_115.out _; (with_reducible repeat (first | refine blk_drewN ?_ _ | refine blk_drew ?_ | refine blk_alloc ?_ _)); refine blk_far ?_ NB122_115.out _; (with_reducible repeat (first | refine blk_drewN ?_ _ | refine blk_drew ?_ | refine blk_alloc ?_ _)); refine blk_far ?_ NB122_115.out _; (with_reducible repeat (first | refine blk_drewN ?_ _ | refine blk_drew ?_ | refine blk_alloc ?_ _)); exact BK122.out))⟩; have n2_ : Aside0 (Below w.heap.size w w68) := ⟨(by rw [hw]; exact (by repeat (first | (with_reducible first | exact HB.out | apply below_alloc | apply pw_below_drewN | apply below_drew1 | refine below_set ?_ GE115.out | refine below_set ?_ GE122.out) | exact HB.out)))⟩; clear hw; clear BK115; clear BK122; clear HB; have BK115 := n0_; have BK122 := n1_; have HB := n2_; clear n0_ n1_ n2_))
        refine bodyPost_ret (results_ct rfl _ _ gb115 23 #[.int .i64 0, .int .i64 0, .int .i64 0, .int .i64 0, .int .i64 0, .int .i64 0, .bool false, .int .i64 0] (0, 0) _ rfl (by (with_reducible repeat (first | refine blk_drewN ?_ _ | refine blk_drew ?_ | refine blk_alloc ?_ _)); exact BK115.out) Tryd.underlying23 rfl (by kernel_rfl)) rfl ?_
        exact ⟨by first | rfl | (simp only [show ∀ l_ : List UInt8, (l_ != []) = !l_.isEmpty from fun l_ => by cases l_ <;> rfl, show ∀ l_ : List UInt8, (l_ == []) = l_.isEmpty from fun l_ => by cases l_ <;> rfl]; rfl) | (simp [*] <;> rfl), by repeat (first | (with_reducible first | exact HB.out | apply below_alloc | apply pw_below_drewN | apply below_drew1 | refine below_set ?_ GE115.out | refine below_set ?_ GE122.out) | exact HB.out)⟩
      ·rw [if_neg c49] at H
       have c49b0 : ((a0.extract 19 a0.size).toList == ([] : List UInt8)) = false := beq_eq_false_iff_ne.mpr c49
       have c49b1 : ((a0.extract 19 a0.size).toList != ([] : List UInt8)) = true := bne_iff_ne.mpr c49
       have c49b2 : ((a0.extract 19 a0.size)).toList.isEmpty = false := by (first | exact (List.isEmpty_iff.mpr (eq_of_beq c49b0)) | exact (Bool.eq_false_iff.mpr (fun h_ => by rw [List.isEmpty_iff.mp h_] at c49b0; cases c49b0)))
       replace H := Option.bind_eq_some_iff.mp H
       obtain ⟨t125, A690, H⟩ := H
       replace H : ((spec_l5Part.f kj1 (a0.extract 19 a0.size) 4 2).bind fun t126 => (if ((a0.extract 19 a0.size).size : Int) = 6 then (if 0 < ((a0.extract 19 a0.size).size : Int) then (if (bt (a0.extract 19 a0.size) 0) = 43 then (if 3 < ((a0.extract 19 a0.size).size : Int) then (if (bt (a0.extract 19 a0.size) 3) = 58 then ((spec_l1In.f t125 0 14).bind fun t127 => (if t127 = true then ((spec_l1In.f t126 0 59).bind fun t128 => (spec_ReadDate.j1 kj1 (a0.extract 19 a0.size) t125 t126 (!t128) t116 t117 t118 t119 t120 t121 false 0)) else (spec_ReadDate.j1 kj1 (a0.extract 19 a0.size) t125 t126 true t116 t117 t118 t119 t120 t121 false 0))) else (spec_ReadDate.j1 kj1 (a0.extract 19 a0.size) t125 t126 true t116 t117 t118 t119 t120 t121 false 0)) else (none)) else (if (bt (a0.extract 19 a0.size) 0) = 45 then (if 3 < ((a0.extract 19 a0.size).size : Int) then (if (bt (a0.extract 19 a0.size) 3) = 58 then ((spec_l1In.f t125 0 14).bind fun t129 => (if t129 = true then ((spec_l1In.f t126 0 59).bind fun t130 => (spec_ReadDate.j1 kj1 (a0.extract 19 a0.size) t125 t126 (!t130) t116 t117 t118 t119 t120 t121 false 0)) else (spec_ReadDate.j1 kj1 (a0.extract 19 a0.size) t125 t126 true t116 t117 t118 t119 t120 t121 false 0))) else (spec_ReadDate.j1 kj1 (a0.extract 19 a0.size) t125 t126 true t116 t117 t118 t119 t120 t121 false 0)) else (none)) else (spec_ReadDate.j1 kj1 (a0.extract 19 a0.size) t125 t126 true t116 t117 t118 t119 t120 t121 false 0))) else (none)) else (spec_ReadDate.j1 kj1 (a0.extract 19 a0.size) t125 t126 true t116 t117 t118 t119 t120 t121 false 0))) = some (r1, r2, r3, r4, r5, r6, r7, r8, r9) := H
       have A69 := Aside0.mk A690
       clear A690
       replace H := Option.bind_eq_some_iff.mp H
       obtain ⟨t126, A700, H⟩ := H
       replace H : (if ((a0.extract 19 a0.size).size : Int) = 6 then (if 0 < ((a0.extract 19 a0.size).size : Int) then (if (bt (a0.extract 19 a0.size) 0) = 43 then (if 3 < ((a0.extract 19 a0.size).size : Int) then (if (bt (a0.extract 19 a0.size) 3) = 58 then ((spec_l1In.f t125 0 14).bind fun t127 => (if t127 = true then ((spec_l1In.f t126 0 59).bind fun t128 => (spec_ReadDate.j1 kj1 (a0.extract 19 a0.size) t125 t126 (!t128) t116 t117 t118 t119 t120 t121 false 0)) else (spec_ReadDate.j1 kj1 (a0.extract 19 a0.size) t125 t126 true t116 t117 t118 t119 t120 t121 false 0))) else (spec_ReadDate.j1 kj1 (a0.extract 19 a0.size) t125 t126 true t116 t117 t118 t119 t120 t121 false 0)) else (none)) else (if (bt (a0.extract 19 a0.size) 0) = 45 then (if 3 < ((a0.extract 19 a0.size).size : Int) then (if (bt (a0.extract 19 a0.size) 3) = 58 then ((spec_l1In.f t125 0 14).bind fun t129 => (if t129 = true then ((spec_l1In.f t126 0 59).bind fun t130 => (spec_ReadDate.j1 kj1 (a0.extract 19 a0.size) t125 t126 (!t130) t116 t117 t118 t119 t120 t121 false 0)) else (spec_ReadDate.j1 kj1 (a0.extract 19 a0.size) t125 t126 true t116 t117 t118 t119 t120 t121 false 0))) else (spec_ReadDate.j1 kj1 (a0.extract 19 a0.size) t125 t126 true t116 t117 t118 t119 t120 t121 false 0)) else (none)) else (spec_ReadDate.j1 kj1 (a0.extract 19 a0.size) t125 t126 true t116 t117 t118 t119 t120 t121 false 0))) else (none)) else (spec_ReadDate.j1 kj1 (a0.extract 19 a0.size) t125 t126 true t116 t117 t118 t119 t120 t121 false 0)) = some (r1, r2, r3, r4, r5, r6, r7, r8, r9) := H
       have A70 := Aside0.mk A700
       clear A700
       have HC71 := Aside0.mk H
       clear H
       go_upto_region 10 with (first | ((with_reducible refine gate_callee (f := 11) rfl ?_); refine goesL_ (some 38) rfl rfl Tryd.func11 (by kernel_rfl) rfl #[.string a0, .int .i64 0, .int .i64 4] rfl (by (try simp only [List.map_toArray, List.map_cons, List.map_nil]); first | done | rfl | (simp only [List.length_drop, List.length_take]; rfl)) ?_; (with_reducible refine (spec_l5Part.calls kj1 a0 0 4 t116 _ A22.out).mono ?_); rintro e w' ⟨rfl, ⟨nd, rfl⟩⟩; refine ⟨_, rfl, ?_⟩; (try (rw [drewN_self wc]; generalize hq_ : World.drewN wc _ = wc; have n0_ : Aside0 (wc.heap[gb115]? = some (.cells #[.int .i64 0, .int .i64 0, .int .i64 0, .int .i64 0, .int .i64 0, .int .i64 0, .bool false, .int .i64 0] 23 (0, 0))) := ⟨by rw [← hq_]; exact (by (with_reducible repeat (first | refine blk_drewN ?_ _ | refine blk_drew ?_ | refine blk_alloc ?_ _)); exact BK115.out)⟩; have n1_ : Aside0 (Below w.heap.size w wc) := ⟨by rw [← hq_]; exact (by repeat (first | (with_reducible first | exact HB.out | apply below_alloc | apply pw_below_drewN | apply below_drew1 | refine below_set ?_ GE115.out) | exact HB.out))⟩; clear BK115 HB hq_; have BK115 := n0_; have HB := n1_; clear n0_ n1_))) | ((with_reducible refine gate_callee (f := 11) rfl ?_); refine goesL_ (some 40) rfl rfl Tryd.func11 (by kernel_rfl) rfl #[.string a0, .int .i64 5, .int .i64 2] rfl (by (try simp only [List.map_toArray, List.map_cons, List.map_nil]); first | done | rfl | (simp only [List.length_drop, List.length_take]; rfl)) ?_; (with_reducible refine (spec_l5Part.calls kj1 a0 5 2 t117 _ A23.out).mono ?_); rintro e w' ⟨rfl, ⟨nd, rfl⟩⟩; refine ⟨_, rfl, ?_⟩; (try (rw [drewN_self wc]; generalize hq_ : World.drewN wc _ = wc; have n0_ : Aside0 (wc.heap[gb115]? = some (.cells #[.int .i64 0, .int .i64 0, .int .i64 0, .int .i64 0, .int .i64 0, .int .i64 0, .bool false, .int .i64 0] 23 (0, 0))) := ⟨by rw [← hq_]; exact (by (with_reducible repeat (first | refine blk_drewN ?_ _ | refine blk_drew ?_ | refine blk_alloc ?_ _)); exact BK115.out)⟩; have n1_ : Aside0 (Below w.heap.size w wc) := ⟨by rw [← hq_]; exact (by repeat (first | (with_reducible first | exact HB.out | apply below_alloc | apply pw_below_drewN | apply below_drew1 | refine below_set ?_ GE115.out) | exact HB.out))⟩; clear BK115 HB hq_; have BK115 := n0_; have HB := n1_; clear n0_ n1_))) | ((with_reducible refine gate_callee (f := 11) rfl ?_); refine goesL_ (some 42) rfl rfl Tryd.func11 (by kernel_rfl) rfl #[.string a0, .int .i64 8, .int .i64 2] rfl (by (try simp only [List.map_toArray, List.map_cons, List.map_nil]); first | done | rfl | (simp only [List.length_drop, List.length_take]; rfl)) ?_; (with_reducible refine (spec_l5Part.calls kj1 a0 8 2 t118 _ A24.out).mono ?_); rintro e w' ⟨rfl, ⟨nd, rfl⟩⟩; refine ⟨_, rfl, ?_⟩; (try (rw [drewN_self wc]; generalize hq_ : World.drewN wc _ = wc; have n0_ : Aside0 (wc.heap[gb115]? = some (.cells #[.int .i64 0, .int .i64 0, .int .i64 0, .int .i64 0, .int .i64 0, .int .i64 0, .bool false, .int .i64 0] 23 (0, 0))) := ⟨by rw [← hq_]; exact (by (with_reducible repeat (first | refine blk_drewN ?_ _ | refine blk_drew ?_ | refine blk_alloc ?_ _)); exact BK115.out)⟩; have n1_ : Aside0 (Below w.heap.size w wc) := ⟨by rw [← hq_]; exact (by repeat (first | (with_reducible first | exact HB.out | apply below_alloc | apply pw_below_drewN | apply below_drew1 | refine below_set ?_ GE115.out) | exact HB.out))⟩; clear BK115 HB hq_; have BK115 := n0_; have HB := n1_; clear n0_ n1_))) | ((with_reducible refine gate_callee (f := 11) rfl ?_); refine goesL_ (some 44) rfl rfl Tryd.func11 (by kernel_rfl) rfl #[.string a0, .int .i64 11, .int .i64 2] rfl (by (try simp only [List.map_toArray, List.map_cons, List.map_nil]); first | done | rfl | (simp only [List.length_drop, List.length_take]; rfl)) ?_; (with_reducible refine (spec_l5Part.calls kj1 a0 11 2 t119 _ A25.out).mono ?_); rintro e w' ⟨rfl, ⟨nd, rfl⟩⟩; refine ⟨_, rfl, ?_⟩; (try (rw [drewN_self wc]; generalize hq_ : World.drewN wc _ = wc; have n0_ : Aside0 (wc.heap[gb115]? = some (.cells #[.int .i64 0, .int .i64 0, .int .i64 0, .int .i64 0, .int .i64 0, .int .i64 0, .bool false, .int .i64 0] 23 (0, 0))) := ⟨by rw [← hq_]; exact (by (with_reducible repeat (first | refine blk_drewN ?_ _ | refine blk_drew ?_ | refine blk_alloc ?_ _)); exact BK115.out)⟩; have n1_ : Aside0 (Below w.heap.size w wc) := ⟨by rw [← hq_]; exact (by repeat (first | (with_reducible first | exact HB.out | apply below_alloc | apply pw_below_drewN | apply below_drew1 | refine below_set ?_ GE115.out) | exact HB.out))⟩; clear BK115 HB hq_; have BK115 := n0_; have HB := n1_; clear n0_ n1_))) | ((with_reducible refine gate_callee (f := 11) rfl ?_); refine goesL_ (some 46) rfl rfl Tryd.func11 (by kernel_rfl) rfl #[.string a0, .int .i64 14, .int .i64 2] rfl (by (try simp only [List.map_toArray, List.map_cons, List.map_nil]); first | done | rfl | (simp only [List.length_drop, List.length_take]; rfl)) ?_; (with_reducible refine (spec_l5Part.calls kj1 a0 14 2 t120 _ A26.out).mono ?_); rintro e w' ⟨rfl, ⟨nd, rfl⟩⟩; refine ⟨_, rfl, ?_⟩; (try (rw [drewN_self wc]; generalize hq_ : World.drewN wc _ = wc; have n0_ : Aside0 (wc.heap[gb115]? = some (.cells #[.int .i64 0, .int .i64 0, .int .i64 0, .int .i64 0, .int .i64 0, .int .i64 0, .bool false, .int .i64 0] 23 (0, 0))) := ⟨by rw [← hq_]; exact (by (with_reducible repeat (first | refine blk_drewN ?_ _ | refine blk_drew ?_ | refine blk_alloc ?_ _)); exact BK115.out)⟩; have n1_ : Aside0 (Below w.heap.size w wc) := ⟨by rw [← hq_]; exact (by repeat (first | (with_reducible first | exact HB.out | apply below_alloc | apply pw_below_drewN | apply below_drew1 | refine below_set ?_ GE115.out) | exact HB.out))⟩; clear BK115 HB hq_; have BK115 := n0_; have HB := n1_; clear n0_ n1_))) | ((with_reducible refine gate_callee (f := 11) rfl ?_); refine goesL_ (some 48) rfl rfl Tryd.func11 (by kernel_rfl) rfl #[.string a0, .int .i64 17, .int .i64 2] rfl (by (try simp only [List.map_toArray, List.map_cons, List.map_nil]); first | done | rfl | (simp only [List.length_drop, List.length_take]; rfl)) ?_; (with_reducible refine (spec_l5Part.calls kj1 a0 17 2 t121 _ A27.out).mono ?_); rintro e w' ⟨rfl, ⟨nd, rfl⟩⟩; refine ⟨_, rfl, ?_⟩; (try (rw [drewN_self wc]; generalize hq_ : World.drewN wc _ = wc; have n0_ : Aside0 (wc.heap[gb115]? = some (.cells #[.int .i64 0, .int .i64 0, .int .i64 0, .int .i64 0, .int .i64 0, .int .i64 0, .bool false, .int .i64 0] 23 (0, 0))) := ⟨by rw [← hq_]; exact (by (with_reducible repeat (first | refine blk_drewN ?_ _ | refine blk_drew ?_ | refine blk_alloc ?_ _)); exact BK115.out)⟩; have n1_ : Aside0 (Below w.heap.size w wc) := ⟨by rw [← hq_]; exact (by repeat (first | (with_reducible first | exact HB.out | apply below_alloc | apply pw_below_drewN | apply below_drew1 | refine below_set ?_ GE115.out) | exact HB.out))⟩; clear BK115 HB hq_; have BK115 := n0_; have HB := n1_; clear n0_ n1_))) | ((with_reducible refine gate_dst (N := 4) rfl ?_); refine box_event ?hg (N := 4) ?hd (cs := #[.int .i64 0, .int .i64 0, .int .i64 0, .int .i64 0, .int .i64 0, .int .i64 0, .bool false, .int .i64 0]) (t := 23) ?hr ?_; (case hd => rfl); (case hg => rfl); (case hr => first | (go_simp; done) | (go_simp; rfl)); intro gb122 hg w72 hbox hb; have n0_ := Aside0.mk (blk_below (g := gb115) (o := .cells #[.int .i64 0, .int .i64 0, .int .i64 0, .int .i64 0, .int .i64 0, .int .i64 0, .bool false, .int .i64 0] 23 (0, 0)) (by (with_reducible repeat (first | refine blk_drewN ?_ _ | refine blk_drew ?_ | refine blk_alloc ?_ _)); exact BK115.out) hb); have n1_ := Aside0.mk (below_step (by repeat (first | (with_reducible first | exact HB.out | apply below_alloc | apply pw_below_drewN | apply below_drew1 | refine below_set ?_ GE115.out) | exact HB.out)) hb); have n2_ := Aside0.mk (hbox); have n3_ := Aside0.mk ((by rw [hg]; exact (below_size (by repeat (first | (with_reducible first | exact HB.out | apply below_alloc | apply pw_below_drewN | apply below_drew1 | refine below_set ?_ GE115.out) | exact HB.out))) : w.heap.size ≤ gb122)); have n4_ := Aside0.mk ((by rw [hg]; exact (below_size (by repeat (first | (with_reducible first | exact HB.out | apply below_alloc | apply pw_below_drewN | apply below_drew1 | refine below_set ?_ GE115.out) | exact HB.out))) : w.heap.size ≤ gb122)); have n5_ := Aside0.mk ((by rw [hg]; exact Nat.ne_of_lt (blk_lt (g := gb115) (o := .cells #[.int .i64 0, .int .i64 0, .int .i64 0, .int .i64 0, .int .i64 0, .int .i64 0, .bool false, .int .i64 0] 23 (0, 0)) (by (with_reducible repeat (first | refine blk_drewN ?_ _ | refine blk_drew ?_ | refine blk_alloc ?_ _)); exact BK115.out)) : gb115 ≠ gb122)); have n6_ := Aside0.mk ((by rw [hg]; exact Nat.ne_of_gt (blk_lt (g := gb115) (o := .cells #[.int .i64 0, .int .i64 0, .int .i64 0, .int .i64 0, .int .i64 0, .int .i64 0, .bool false, .int .i64 0] 23 (0, 0)) (by (with_reducible repeat (first | refine blk_drewN ?_ _ | refine blk_drew ?_ | refine blk_alloc ?_ _)); exact BK115.out)) : gb122 ≠ gb115)); clear BK115; clear HB; have BK115 := n0_; have HB := n1_; have BK122 := n2_; have GW122 := n3_; have GE122 := n4_; have NB115_122 := n5_; have NB122_115 := n6_; clear n0_ n1_ n2_ n3_ n4_ n5_ n6_; clear hb hbox hg; have hnb73 := NB122_115.out; have hnc73 := NB115_122.out; have hcz74_0 : w72.cell? ⟨gb122, 0, none⟩ = some (.int .i64 0) := (blk_cell BK122.out 0).trans rfl; have hcz74_1 : w72.cell? ⟨gb122, 1, none⟩ = some (.int .i64 0) := (blk_cell BK122.out 1).trans rfl; have hcz74_2 : w72.cell? ⟨gb122, 2, none⟩ = some (.int .i64 0) := (blk_cell BK122.out 2).trans rfl; have hcz74_3 : w72.cell? ⟨gb122, 3, none⟩ = some (.int .i64 0) := (blk_cell BK122.out 3).trans rfl; have hcz74_4 : w72.cell? ⟨gb122, 4, none⟩ = some (.int .i64 0) := (blk_cell BK122.out 4).trans rfl; have hcz74_5 : w72.cell? ⟨gb122, 5, none⟩ = some (.int .i64 0) := (blk_cell BK122.out 5).trans rfl; have hcz74_6 : w72.cell? ⟨gb122, 6, none⟩ = some (.bool false) := (blk_cell BK122.out 6).trans rfl; have hcz74_7 : w72.cell? ⟨gb122, 7, none⟩ = some (.int .i64 0) := (blk_cell BK122.out 7).trans rfl; have hfz74_0 := blk_frozen BK122.out 0; have hfz74_1 := blk_frozen BK122.out 1; have hfz74_2 := blk_frozen BK122.out 2; have hfz74_3 := blk_frozen BK122.out 3; have hfz74_4 := blk_frozen BK122.out 4; have hfz74_5 := blk_frozen BK122.out 5; have hfz74_6 := blk_frozen BK122.out 6; have hfz74_7 := blk_frozen BK122.out 7) | ((with_reducible refine gate_store (t := 23) (p := 4) rfl ?_); refine store_event (t := 23) (p := 4) (v := ?vo_w75) (w1 := ((((((((w72.setCell ⟨gb122, 0, none⟩ (.int .i64 t116)).setCell ⟨gb122, 1, none⟩ (.int .i64 t117)).setCell ⟨gb122, 2, none⟩ (.int .i64 t118)).setCell ⟨gb122, 3, none⟩ (.int .i64 t119)).setCell ⟨gb122, 4, none⟩ (.int .i64 t120)).setCell ⟨gb122, 5, none⟩ (.int .i64 t121)).setCell ⟨gb122, 6, none⟩ (.bool false)).setCell ⟨gb122, 7, none⟩ (.int .i64 0))) ?hg ?ho ?hn ?hr ?_; (case ho => rfl); (case hg => rfl); (case hn => rfl); (case hr => first | (go_simp; done) | (go_simp; rfl)); intro w75 hw; have n0_ : Aside0 (w75.heap[gb115]? = some (.cells #[.int .i64 0, .int .i64 0, .int .i64 0, .int .i64 0, .int .i64 0, .int .i64 0, .bool false, .int .i64 0] 23 (0, 0))) := ⟨(by rw [hw]; exact (by (with_reducible repeat (first | refine blk_drewN ?_ _ | refine blk_drew ?_ | refine blk_alloc ?_ _)); refine blk_far ?_ NB115_122.out _; (with_reducible repeat (first | refine blk_drewN ?_ _ | refine blk_drew ?_ | refine blk_alloc ?_ _)); refine blk_far ?_ NB115_122.out _; (with_reducible repeat (first | refine blk_drewN ?_ _ | refine blk_drew ?_ | refine blk_alloc ?_ _)); refine blk_far ?_ NB115_122.out _; (with_reducible repeat (first | refine blk_drewN ?_ _ | refine blk_drew ?_ | refine blk_alloc ?_ _)); refine blk_far ?_ NB115_122.out _; (with_reducible repeat (first | refine blk_drewN ?_ _ | refine blk_drew ?_ | refine blk_alloc ?_ _)); refine blk_far ?_ NB115_122.out _; (with_reducible repeat (first | refine blk_drewN ?_ _ | refine blk_drew ?_ | refine blk_alloc ?_ _)); refine blk_far ?_ NB115_122.out _; (with_reducible repeat (first | refine blk_drewN ?_ _ | refine blk_drew ?_ | refine blk_alloc ?_ _)); refine blk_far ?_ NB115_122.out _; (with_reducible repeat (first | refine blk_drewN ?_ _ | refine blk_drew ?_ | refine blk_alloc ?_ _)); refine blk_far ?_ NB115_122.out _; (with_reducible repeat (first | refine blk_drewN ?_ _ | refine blk_drew ?_ | refine blk_alloc ?_ _)); exact BK115.out))⟩; have n1_ : Aside0 (w75.heap[gb122]? = some (.cells #[.int .i64 t116, .int .i64 t117, .int .i64 t118, .int .i64 t119, .int .i64 t120, .int .i64 t121, .bool false, .int .i64 0] 23 (0, 0))) := ⟨(by rw [hw]; exact (by (with_reducible repeat (first | refine blk_drewN ?_ _ | refine blk_drew ?_ | refine blk_alloc ?_ _)); refine blk_put (cs := #[.int .i64 t116, .int .i64 t117, .int .i64 t118, .int .i64 t119, .int .i64 t120, .int .i64 t121, .bool false, .int .i64 0]) ?_ 7 _ rfl; (with_reducible repeat (first | refine blk_drewN ?_ _ | refine blk_drew ?_ | refine blk_alloc ?_ _)); refine blk_put (cs := #[.int .i64 t116, .int .i64 t117, .int .i64 t118, .int .i64 t119, .int .i64 t120, .int .i64 t121, .bool false, .int .i64 0]) ?_ 6 _ rfl; (with_reducible repeat (first | refine blk_drewN ?_ _ | refine blk_drew ?_ | refine blk_alloc ?_ _)); refine blk_put (cs := #[.int .i64 t116, .int .i64 t117, .int .i64 t118, .int .i64 t119, .int .i64 t120, .int .i64 0, .bool false, .int .i64 0]) ?_ 5 _ rfl; (with_reducible repeat (first | refine blk_drewN ?_ _ | refine blk_drew ?_ | refine blk_alloc ?_ _)); refine blk_put (cs := #[.int .i64 t116, .int .i64 t117, .int .i64 t118, .int .i64 t119, .int .i64 0, .int .i64 0, .bool false, .int .i64 0]) ?_ 4 _ rfl; (with_reducible repeat (first | refine blk_drewN ?_ _ | refine blk_drew ?_ | refine blk_alloc ?_ _)); refine blk_put (cs := #[.int .i64 t116, .int .i64 t117, .int .i64 t118, .int .i64 0, .int .i64 0, .int .i64 0, .bool false, .int .i64 0]) ?_ 3 _ rfl; (with_reducible repeat (first | refine blk_drewN ?_ _ | refine blk_drew ?_ | refine blk_alloc ?_ _)); refine blk_put (cs := #[.int .i64 t116, .int .i64 t117, .int .i64 0, .int .i64 0, .int .i64 0, .int .i64 0, .bool false, .int .i64 0]) ?_ 2 _ rfl; (with_reducible repeat (first | refine blk_drewN ?_ _ | refine blk_drew ?_ | refine blk_alloc ?_ _)); refine blk_put (cs := #[.int .i64 t116, .int .i64 0, .int .i64 0, .int .i64 0, .int .i64 0, .int .i64 0, .bool false, .int .i64 0]) ?_ 1 _ rfl; (with_reducible repeat (first | refine blk_drewN ?_ _ | refine blk_drew ?_ | refine blk_alloc ?_ _)); refine blk_put (cs := #[.int .i64 0, .int .i64 0, .int .i64 0, .int .i64 0, .int .i64 0, .int .i64 0, .bool false, .int .i64 0]) ?_ 0 _ rfl; (with_reducible repeat (first | refine blk_drewN ?_ _ | refine blk_drew ?_ | refine blk_alloc ?_ _)); exact BK122.out))⟩; have n2_ : Aside0 (Below w.heap.size w w75) := ⟨(by rw [hw]; exact (by repeat (first | (with_reducible first | exact HB.out | apply below_alloc | apply pw_below_drewN | apply below_drew1 | refine below_set ?_ GE115.out | refine below_set ?_ GE122.out) | exact HB.out)))⟩; clear hw; clear BK115; clear BK122; clear HB; have BK115 := n0_; have BK122 := n1_; have HB := n2_; clear n0_ n1_ n2_) | ((with_reducible refine gate_callee (f := 11) rfl ?_); refine goesL_ (some 60) rfl rfl Tryd.func11 (by kernel_rfl) rfl #[.string (a0.extract 19 a0.size), .int .i64 1, .int .i64 2] rfl (by (try simp only [List.map_toArray, List.map_cons, List.map_nil]); first | done | rfl | (simp only [List.length_drop, List.length_take]; rfl)) ?_; (with_reducible refine (spec_l5Part.calls kj1 (a0.extract 19 a0.size) 1 2 t125 _ A69.out).mono ?_); rintro e w' ⟨rfl, ⟨nd, rfl⟩⟩; refine ⟨_, rfl, ?_⟩) | ((with_reducible refine gate_callee (f := 11) rfl ?_); refine goesL_ (some 62) rfl rfl Tryd.func11 (by kernel_rfl) rfl #[.string (a0.extract 19 a0.size), .int .i64 4, .int .i64 2] rfl (by (try simp only [List.map_toArray, List.map_cons, List.map_nil]); first | done | rfl | (simp only [List.length_drop, List.length_take]; rfl)) ?_; (with_reducible refine (spec_l5Part.calls kj1 (a0.extract 19 a0.size) 4 2 t126 _ A70.out).mono ?_); rintro e w' ⟨rfl, ⟨nd, rfl⟩⟩; refine ⟨_, rfl, ?_⟩))
       (try simp only [Act.put, List.setIfInBounds_toArray, List.set_cons_zero, List.set_cons_succ])
       generalize a0.extract 19 a0.size = zz at *
       go_cut [90] (fun v90 wc => ∃ (kq : Nat) (x90_70 : Bool), v90 = .bool x90_70 ∧ Aside0 (spec_ReadDate.j1 kq zz t125 t126 x90_70 t116 t117 t118 t119 t120 t121 false 0 = some (r1, r2, r3, r4, r5, r6, r7, r8, r9)) ∧ Aside0 (kq ≤ kj1) ∧ Aside0 (wc.heap[gb115]? = some (.cells #[.int .i64 0, .int .i64 0, .int .i64 0, .int .i64 0, .int .i64 0, .int .i64 0, .bool false, .int .i64 0] 23 (0, 0))) ∧ Aside0 (wc.heap[gb122]? = some (.cells #[.int .i64 t116, .int .i64 t117, .int .i64 t118, .int .i64 t119, .int .i64 t120, .int .i64 t121, .bool false, .int .i64 0] 23 (0, 0))) ∧ Aside0 (Below w.heap.size w wc))
       case first =>
        have H := HC71.out
        clear HC71
        by_cases c76 : (zz.size : Int) = 6
        ·rw [if_pos c76] at H
         have c76b0 : ((zz.size : Int) == 6) = true := beq_iff_eq.mpr c76
         have c76b1 : ((zz.size : Int) != 6) = false := bne_eq_false_iff_eq.mpr c76
         clear c76
         (first | rw [c76b0] | (simp only [i64_w, i32_w]; rw [c76b0]) | skip)
         by_cases c77 : 0 < (zz.size : Int)
         ·rw [if_pos c77] at H
          have c77b0 : decide (0 < (zz.size : Int)) = true := decide_eq_true c77
          have c77b1 : decide (0 < zz.size) = true := decide_eq_true (by omega)
          clear c77
          by_cases c79 : (bt zz 0) = 43
          ·rw [if_pos c79] at H
           have c79b0 : ((bt zz 0) == 43) = true := beq_iff_eq.mpr c79
           have c79b1 : ((bt zz 0) != 43) = false := bne_eq_false_iff_eq.mpr c79
           clear c79
           by_cases c80 : 3 < (zz.size : Int)
           ·rw [if_pos c80] at H
            have c80b0 : decide (3 < (zz.size : Int)) = true := decide_eq_true c80
            have c80b1 : decide (3 < zz.size) = true := decide_eq_true (by omega)
            clear c80
            by_cases c82 : (bt zz 3) = 58
            ·rw [if_pos c82] at H
             have c82b0 : ((bt zz 3) == 58) = true := beq_iff_eq.mpr c82
             have c82b1 : ((bt zz 3) != 58) = false := bne_eq_false_iff_eq.mpr c82
             clear c82
             replace H := Option.bind_eq_some_iff.mp H
             obtain ⟨t127, A830, H⟩ := H
             replace H : (if t127 = true then ((spec_l1In.f t126 0 59).bind fun t128 => (spec_ReadDate.j1 kj1 zz t125 t126 (!t128) t116 t117 t118 t119 t120 t121 false 0)) else (spec_ReadDate.j1 kj1 zz t125 t126 true t116 t117 t118 t119 t120 t121 false 0)) = some (r1, r2, r3, r4, r5, r6, r7, r8, r9) := H
             have A83 := Aside0.mk A830
             clear A830
             by_cases c84 : t127 = true
             ·subst c84
              have H1 : ((spec_l1In.f t126 0 59).bind fun t128 => (spec_ReadDate.j1 kj1 zz t125 t126 (!t128) t116 t117 t118 t119 t120 t121 false 0)) = some (r1, r2, r3, r4, r5, r6, r7, r8, r9) := by rw [if_pos rfl] at H; exact H
              clear H
              have H := H1
              clear H1
              replace H := Option.bind_eq_some_iff.mp H
              obtain ⟨t128, A850, H⟩ := H
              replace H : (spec_ReadDate.j1 kj1 zz t125 t126 (!t128) t116 t117 t118 t119 t120 t121 false 0) = some (r1, r2, r3, r4, r5, r6, r7, r8, r9) := H
              have A85 := Aside0.mk A850
              clear A850
              have H' := Aside0.mk H
              clear H
              have p78 : 0 ≤ (0 : Int) := (by omega)
              have q78 : 0 < zz.size := (by have : (0 : Int) < (zz.size : Int) := of_decide_eq_true (by first | (with_reducible assumption) | assumption); omega)
              have hx78 : ∀ h : 0 < zz.size, ((zz[0]'h).toNat : Int) = bt zz 0 := bt_at zz 0
              clear p78
              have qi78 : (0 < (zz.size : Int)) = True := eq_true (of_decide_eq_true (by first | (with_reducible assumption) | assumption))
              replace q78 := eq_true q78
              have p81 : 0 ≤ (3 : Int) := (by omega)
              have q81 : 3 < zz.size := (by have : (3 : Int) < (zz.size : Int) := of_decide_eq_true (by first | (with_reducible assumption) | assumption); omega)
              have hx81 : ∀ h : 3 < zz.size, ((zz[3]'h).toNat : Int) = bt zz 3 := bt_at zz 3
              clear p81
              have qi81 : (3 < (zz.size : Int)) = True := eq_true (of_decide_eq_true (by first | (with_reducible assumption) | assumption))
              replace q81 := eq_true q81
              go_wp2_with (first | (go_at_call 12; (with_reducible refine (spec_l1In.calls t125 0 14 true _ A83.out).mono ?_); rintro e w' ⟨rfl, ⟨nd, rfl⟩⟩) | (go_at_call 12; (with_reducible refine (spec_l1In.calls t126 0 59 t128 _ A85.out).mono ?_); rintro e w' ⟨rfl, ⟨nd, rfl⟩⟩))
              go_meet
              case rel => exact ⟨_, (!t128), (by first | rfl | (simp; done) | (simp [*]; done)), H', ⟨by have := HJ1.out; first | omega | exact Nat.le_refl _⟩, ⟨by (with_reducible repeat (first | refine blk_drewN ?_ _ | refine blk_drew ?_ | refine blk_alloc ?_ _)); exact BK115.out⟩, ⟨by (with_reducible repeat (first | refine blk_drewN ?_ _ | refine blk_drew ?_ | refine blk_alloc ?_ _)); exact BK122.out⟩, ⟨by repeat (first | (with_reducible first | exact HB.out | apply below_alloc | apply pw_below_drewN | apply below_drew1 | refine below_set ?_ GE115.out | refine below_set ?_ GE122.out) | exact HB.out)⟩⟩
             ·replace c84 := Bool.eq_false_iff.mpr c84
              subst c84
              have H1 : (spec_ReadDate.j1 kj1 zz t125 t126 true t116 t117 t118 t119 t120 t121 false 0) = some (r1, r2, r3, r4, r5, r6, r7, r8, r9) := by rw [if_neg (show ¬ (false = true) by decide)] at H; exact H
              clear H
              have H := H1
              clear H1
              have H' := Aside0.mk H
              clear H
              have p78 : 0 ≤ (0 : Int) := (by omega)
              have q78 : 0 < zz.size := (by have : (0 : Int) < (zz.size : Int) := of_decide_eq_true (by first | (with_reducible assumption) | assumption); omega)
              have hx78 : ∀ h : 0 < zz.size, ((zz[0]'h).toNat : Int) = bt zz 0 := bt_at zz 0
              clear p78
              have qi78 : (0 < (zz.size : Int)) = True := eq_true (of_decide_eq_true (by first | (with_reducible assumption) | assumption))
              replace q78 := eq_true q78
              have p81 : 0 ≤ (3 : Int) := (by omega)
              have q81 : 3 < zz.size := (by have : (3 : Int) < (zz.size : Int) := of_decide_eq_true (by first | (with_reducible assumption) | assumption); omega)
              have hx81 : ∀ h : 3 < zz.size, ((zz[3]'h).toNat : Int) = bt zz 3 := bt_at zz 3
              clear p81
              have qi81 : (3 < (zz.size : Int)) = True := eq_true (of_decide_eq_true (by first | (with_reducible assumption) | assumption))
              replace q81 := eq_true q81
              go_wp2_with (first | (go_at_call 12; (with_reducible refine (spec_l1In.calls t125 0 14 false _ A83.out).mono ?_); rintro e w' ⟨rfl, ⟨nd, rfl⟩⟩))
              go_meet
              case rel => exact ⟨_, (true), (by first | rfl | (simp; done) | (simp [*]; done)), H', ⟨by have := HJ1.out; first | omega | exact Nat.le_refl _⟩, ⟨by (with_reducible repeat (first | refine blk_drewN ?_ _ | refine blk_drew ?_ | refine blk_alloc ?_ _)); exact BK115.out⟩, ⟨by (with_reducible repeat (first | refine blk_drewN ?_ _ | refine blk_drew ?_ | refine blk_alloc ?_ _)); exact BK122.out⟩, ⟨by repeat (first | (with_reducible first | exact HB.out | apply below_alloc | apply pw_below_drewN | apply below_drew1 | refine below_set ?_ GE115.out | refine below_set ?_ GE122.out) | exact HB.out)⟩⟩
            ·rw [if_neg c82] at H
             have c82b0 : ((bt zz 3) == 58) = false := beq_eq_false_iff_ne.mpr c82
             have c82b1 : ((bt zz 3) != 58) = true := bne_iff_ne.mpr c82
             have H' := Aside0.mk H
             clear H
             have p78 : 0 ≤ (0 : Int) := (by omega)
             have q78 : 0 < zz.size := (by have : (0 : Int) < (zz.size : Int) := of_decide_eq_true (by first | (with_reducible assumption) | assumption); omega)
             have hx78 : ∀ h : 0 < zz.size, ((zz[0]'h).toNat : Int) = bt zz 0 := bt_at zz 0
             clear p78
             have qi78 : (0 < (zz.size : Int)) = True := eq_true (of_decide_eq_true (by first | (with_reducible assumption) | assumption))
             replace q78 := eq_true q78
             have p81 : 0 ≤ (3 : Int) := (by omega)
             have q81 : 3 < zz.size := (by have : (3 : Int) < (zz.size : Int) := of_decide_eq_true (by first | (with_reducible assumption) | assumption); omega)
             have hx81 : ∀ h : 3 < zz.size, ((zz[3]'h).toNat : Int) = bt zz 3 := bt_at zz 3
             clear p81
             have qi81 : (3 < (zz.size : Int)) = True := eq_true (of_decide_eq_true (by first | (with_reducible assumption) | assumption))
             replace q81 := eq_true q81
             go_wp2
             go_meet
             case rel => exact ⟨_, (true), (by first | rfl | (simp; done) | (simp [*]; done)), H', ⟨by have := HJ1.out; first | omega | exact Nat.le_refl _⟩, ⟨by (with_reducible repeat (first | refine blk_drewN ?_ _ | refine blk_drew ?_ | refine blk_alloc ?_ _)); exact BK115.out⟩, ⟨by (with_reducible repeat (first | refine blk_drewN ?_ _ | refine blk_drew ?_ | refine blk_alloc ?_ _)); exact BK122.out⟩, ⟨by repeat (first | (with_reducible first | exact HB.out | apply below_alloc | apply pw_below_drewN | apply below_drew1 | refine below_set ?_ GE115.out | refine below_set ?_ GE122.out) | exact HB.out)⟩⟩
           ·rw [if_neg c80] at H
            exact absurd H (by simp)
          ·rw [if_neg c79] at H
           have c79b0 : ((bt zz 0) == 43) = false := beq_eq_false_iff_ne.mpr c79
           have c79b1 : ((bt zz 0) != 43) = true := bne_iff_ne.mpr c79
           by_cases c87 : (bt zz 0) = 45
           ·rw [if_pos c87] at H
            have c87b0 : ((bt zz 0) == 45) = true := beq_iff_eq.mpr c87
            have c87b1 : ((bt zz 0) != 45) = false := bne_eq_false_iff_eq.mpr c87
            clear c87
            by_cases c88 : 3 < (zz.size : Int)
            ·rw [if_pos c88] at H
             have c88b0 : decide (3 < (zz.size : Int)) = true := decide_eq_true c88
             have c88b1 : decide (3 < zz.size) = true := decide_eq_true (by omega)
             clear c88
             by_cases c90 : (bt zz 3) = 58
             ·rw [if_pos c90] at H
              have c90b0 : ((bt zz 3) == 58) = true := beq_iff_eq.mpr c90
              have c90b1 : ((bt zz 3) != 58) = false := bne_eq_false_iff_eq.mpr c90
              clear c90
              replace H := Option.bind_eq_some_iff.mp H
              obtain ⟨t129, A910, H⟩ := H
              replace H : (if t129 = true then ((spec_l1In.f t126 0 59).bind fun t130 => (spec_ReadDate.j1 kj1 zz t125 t126 (!t130) t116 t117 t118 t119 t120 t121 false 0)) else (spec_ReadDate.j1 kj1 zz t125 t126 true t116 t117 t118 t119 t120 t121 false 0)) = some (r1, r2, r3, r4, r5, r6, r7, r8, r9) := H
              have A91 := Aside0.mk A910
              clear A910
              by_cases c92 : t129 = true
              ·subst c92
               have H1 : ((spec_l1In.f t126 0 59).bind fun t130 => (spec_ReadDate.j1 kj1 zz t125 t126 (!t130) t116 t117 t118 t119 t120 t121 false 0)) = some (r1, r2, r3, r4, r5, r6, r7, r8, r9) := by rw [if_pos rfl] at H; exact H
               clear H
               have H := H1
               clear H1
               replace H := Option.bind_eq_some_iff.mp H
               obtain ⟨t130, A930, H⟩ := H
               replace H : (spec_ReadDate.j1 kj1 zz t125 t126 (!t130) t116 t117 t118 t119 t120 t121 false 0) = some (r1, r2, r3, r4, r5, r6, r7, r8, r9) := H
               have A93 := Aside0.mk A930
               clear A930
               have H' := Aside0.mk H
               clear H
               have p78 : 0 ≤ (0 : Int) := (by omega)
               have q78 : 0 < zz.size := (by have : (0 : Int) < (zz.size : Int) := of_decide_eq_true (by first | (with_reducible assumption) | assumption); omega)
               have hx78 : ∀ h : 0 < zz.size, ((zz[0]'h).toNat : Int) = bt zz 0 := bt_at zz 0
               clear p78
               have qi78 : (0 < (zz.size : Int)) = True := eq_true (of_decide_eq_true (by first | (with_reducible assumption) | assumption))
               replace q78 := eq_true q78
               have p86 : 0 ≤ (0 : Int) := (by omega)
               have q86 : 0 < zz.size := (by have : (0 : Int) < (zz.size : Int) := of_decide_eq_true (by first | (with_reducible assumption) | assumption); omega)
               have hx86 : ∀ h : 0 < zz.size, ((zz[0]'h).toNat : Int) = bt zz 0 := bt_at zz 0
               clear p86
               have qi86 : (0 < (zz.size : Int)) = True := eq_true (of_decide_eq_true (by first | (with_reducible assumption) | assumption))
               replace q86 := eq_true q86
               have p89 : 0 ≤ (3 : Int) := (by omega)
               have q89 : 3 < zz.size := (by have : (3 : Int) < (zz.size : Int) := of_decide_eq_true (by first | (with_reducible assumption) | assumption); omega)
               have hx89 : ∀ h : 3 < zz.size, ((zz[3]'h).toNat : Int) = bt zz 3 := bt_at zz 3
               clear p89
               have qi89 : (3 < (zz.size : Int)) = True := eq_true (of_decide_eq_true (by first | (with_reducible assumption) | assumption))
               replace q89 := eq_true q89
               go_wp2_with (first | (go_at_call 12; (with_reducible refine (spec_l1In.calls t125 0 14 true _ A91.out).mono ?_); rintro e w' ⟨rfl, ⟨nd, rfl⟩⟩) | (go_at_call 12; (with_reducible refine (spec_l1In.calls t126 0 59 t130 _ A93.out).mono ?_); rintro e w' ⟨rfl, ⟨nd, rfl⟩⟩))
               go_meet
               case rel => exact ⟨_, (!t130), (by first | rfl | (simp; done) | (simp [*]; done)), H', ⟨by have := HJ1.out; first | omega | exact Nat.le_refl _⟩, ⟨by (with_reducible repeat (first | refine blk_drewN ?_ _ | refine blk_drew ?_ | refine blk_alloc ?_ _)); exact BK115.out⟩, ⟨by (with_reducible repeat (first | refine blk_drewN ?_ _ | refine blk_drew ?_ | refine blk_alloc ?_ _)); exact BK122.out⟩, ⟨by repeat (first | (with_reducible first | exact HB.out | apply below_alloc | apply pw_below_drewN | apply below_drew1 | refine below_set ?_ GE115.out | refine below_set ?_ GE122.out) | exact HB.out)⟩⟩
              ·replace c92 := Bool.eq_false_iff.mpr c92
               subst c92
               have H1 : (spec_ReadDate.j1 kj1 zz t125 t126 true t116 t117 t118 t119 t120 t121 false 0) = some (r1, r2, r3, r4, r5, r6, r7, r8, r9) := by rw [if_neg (show ¬ (false = true) by decide)] at H; exact H
               clear H
               have H := H1
               clear H1
               have H' := Aside0.mk H
               clear H
               have p78 : 0 ≤ (0 : Int) := (by omega)
               have q78 : 0 < zz.size := (by have : (0 : Int) < (zz.size : Int) := of_decide_eq_true (by first | (with_reducible assumption) | assumption); omega)
               have hx78 : ∀ h : 0 < zz.size, ((zz[0]'h).toNat : Int) = bt zz 0 := bt_at zz 0
               clear p78
               have qi78 : (0 < (zz.size : Int)) = True := eq_true (of_decide_eq_true (by first | (with_reducible assumption) | assumption))
               replace q78 := eq_true q78
               have p86 : 0 ≤ (0 : Int) := (by omega)
               have q86 : 0 < zz.size := (by have : (0 : Int) < (zz.size : Int) := of_decide_eq_true (by first | (with_reducible assumption) | assumption); omega)
               have hx86 : ∀ h : 0 < zz.size, ((zz[0]'h).toNat : Int) = bt zz 0 := bt_at zz 0
               clear p86
               have qi86 : (0 < (zz.size : Int)) = True := eq_true (of_decide_eq_true (by first | (with_reducible assumption) | assumption))
               replace q86 := eq_true q86
               have p89 : 0 ≤ (3 : Int) := (by omega)
               have q89 : 3 < zz.size := (by have : (3 : Int) < (zz.size : Int) := of_decide_eq_true (by first | (with_reducible assumption) | assumption); omega)
               have hx89 : ∀ h : 3 < zz.size, ((zz[3]'h).toNat : Int) = bt zz 3 := bt_at zz 3
               clear p89
               have qi89 : (3 < (zz.size : Int)) = True := eq_true (of_decide_eq_true (by first | (with_reducible assumption) | assumption))
               replace q89 := eq_true q89
               go_wp2_with (first | (go_at_call 12; (with_reducible refine (spec_l1In.calls t125 0 14 false _ A91.out).mono ?_); rintro e w' ⟨rfl, ⟨nd, rfl⟩⟩))
               go_meet
               case rel => exact ⟨_, (true), (by first | rfl | (simp; done) | (simp [*]; done)), H', ⟨by have := HJ1.out; first | omega | exact Nat.le_refl _⟩, ⟨by (with_reducible repeat (first | refine blk_drewN ?_ _ | refine blk_drew ?_ | refine blk_alloc ?_ _)); exact BK115.out⟩, ⟨by (with_reducible repeat (first | refine blk_drewN ?_ _ | refine blk_drew ?_ | refine blk_alloc ?_ _)); exact BK122.out⟩, ⟨by repeat (first | (with_reducible first | exact HB.out | apply below_alloc | apply pw_below_drewN | apply below_drew1 | refine below_set ?_ GE115.out | refine below_set ?_ GE122.out) | exact HB.out)⟩⟩
             ·rw [if_neg c90] at H
              have c90b0 : ((bt zz 3) == 58) = false := beq_eq_false_iff_ne.mpr c90
              have c90b1 : ((bt zz 3) != 58) = true := bne_iff_ne.mpr c90
              have H' := Aside0.mk H
              clear H
              have p78 : 0 ≤ (0 : Int) := (by omega)
              have q78 : 0 < zz.size := (by have : (0 : Int) < (zz.size : Int) := of_decide_eq_true (by first | (with_reducible assumption) | assumption); omega)
              have hx78 : ∀ h : 0 < zz.size, ((zz[0]'h).toNat : Int) = bt zz 0 := bt_at zz 0
              clear p78
              have qi78 : (0 < (zz.size : Int)) = True := eq_true (of_decide_eq_true (by first | (with_reducible assumption) | assumption))
              replace q78 := eq_true q78
              have p86 : 0 ≤ (0 : Int) := (by omega)
              have q86 : 0 < zz.size := (by have : (0 : Int) < (zz.size : Int) := of_decide_eq_true (by first | (with_reducible assumption) | assumption); omega)
              have hx86 : ∀ h : 0 < zz.size, ((zz[0]'h).toNat : Int) = bt zz 0 := bt_at zz 0
              clear p86
              have qi86 : (0 < (zz.size : Int)) = True := eq_true (of_decide_eq_true (by first | (with_reducible assumption) | assumption))
              replace q86 := eq_true q86
              have p89 : 0 ≤ (3 : Int) := (by omega)
              have q89 : 3 < zz.size := (by have : (3 : Int) < (zz.size : Int) := of_decide_eq_true (by first | (with_reducible assumption) | assumption); omega)
              have hx89 : ∀ h : 3 < zz.size, ((zz[3]'h).toNat : Int) = bt zz 3 := bt_at zz 3
              clear p89
              have qi89 : (3 < (zz.size : Int)) = True := eq_true (of_decide_eq_true (by first | (with_reducible assumption) | assumption))
              replace q89 := eq_true q89
              go_wp2
              go_meet
              case rel => exact ⟨_, (true), (by first | rfl | (simp; done) | (simp [*]; done)), H', ⟨by have := HJ1.out; first | omega | exact Nat.le_refl _⟩, ⟨by (with_reducible repeat (first | refine blk_drewN ?_ _ | refine blk_drew ?_ | refine blk_alloc ?_ _)); exact BK115.out⟩, ⟨by (with_reducible repeat (first | refine blk_drewN ?_ _ | refine blk_drew ?_ | refine blk_alloc ?_ _)); exact BK122.out⟩, ⟨by repeat (first | (with_reducible first | exact HB.out | apply below_alloc | apply pw_below_drewN | apply below_drew1 | refine below_set ?_ GE115.out | refine below_set ?_ GE122.out) | exact HB.out)⟩⟩
            ·rw [if_neg c88] at H
             exact absurd H (by simp)
           ·rw [if_neg c87] at H
            have c87b0 : ((bt zz 0) == 45) = false := beq_eq_false_iff_ne.mpr c87
            have c87b1 : ((bt zz 0) != 45) = true := bne_iff_ne.mpr c87
            have H' := Aside0.mk H
            clear H
            have p78 : 0 ≤ (0 : Int) := (by omega)
            have q78 : 0 < zz.size := (by have : (0 : Int) < (zz.size : Int) := of_decide_eq_true (by first | (with_reducible assumption) | assumption); omega)
            have hx78 : ∀ h : 0 < zz.size, ((zz[0]'h).toNat : Int) = bt zz 0 := bt_at zz 0
            clear p78
            have qi78 : (0 < (zz.size : Int)) = True := eq_true (of_decide_eq_true (by first | (with_reducible assumption) | assumption))
            replace q78 := eq_true q78
            have p86 : 0 ≤ (0 : Int) := (by omega)
            have q86 : 0 < zz.size := (by have : (0 : Int) < (zz.size : Int) := of_decide_eq_true (by first | (with_reducible assumption) | assumption); omega)
            have hx86 : ∀ h : 0 < zz.size, ((zz[0]'h).toNat : Int) = bt zz 0 := bt_at zz 0
            clear p86
            have qi86 : (0 < (zz.size : Int)) = True := eq_true (of_decide_eq_true (by first | (with_reducible assumption) | assumption))
            replace q86 := eq_true q86
            go_wp2
            go_meet
            case rel => exact ⟨_, (true), (by first | rfl | (simp; done) | (simp [*]; done)), H', ⟨by have := HJ1.out; first | omega | exact Nat.le_refl _⟩, ⟨by (with_reducible repeat (first | refine blk_drewN ?_ _ | refine blk_drew ?_ | refine blk_alloc ?_ _)); exact BK115.out⟩, ⟨by (with_reducible repeat (first | refine blk_drewN ?_ _ | refine blk_drew ?_ | refine blk_alloc ?_ _)); exact BK122.out⟩, ⟨by repeat (first | (with_reducible first | exact HB.out | apply below_alloc | apply pw_below_drewN | apply below_drew1 | refine below_set ?_ GE115.out | refine below_set ?_ GE122.out) | exact HB.out)⟩⟩
         ·rw [if_neg c77] at H
          exact absurd H (by simp)
        ·rw [if_neg c76] at H
         have c76b0 : ((zz.size : Int) == 6) = false := beq_eq_false_iff_ne.mpr c76
         have c76b1 : ((zz.size : Int) != 6) = true := bne_iff_ne.mpr c76
         (first | rw [c76b0] | (simp only [i64_w, i32_w]; rw [c76b0]) | skip)
         have H' := Aside0.mk H
         clear H
         go_wp2
         go_meet
         case rel => exact ⟨_, (true), (by first | rfl | (simp; done) | (simp [*]; done)), H', ⟨by have := HJ1.out; first | omega | exact Nat.le_refl _⟩, ⟨by (with_reducible repeat (first | refine blk_drewN ?_ _ | refine blk_drew ?_ | refine blk_alloc ?_ _)); exact BK115.out⟩, ⟨by (with_reducible repeat (first | refine blk_drewN ?_ _ | refine blk_drew ?_ | refine blk_alloc ?_ _)); exact BK122.out⟩, ⟨by repeat (first | (with_reducible first | exact HB.out | apply below_alloc | apply pw_below_drewN | apply below_drew1 | refine below_set ?_ GE115.out | refine below_set ?_ GE122.out) | exact HB.out)⟩⟩
       case rest =>
        clear HC71
        try clear c1
        try clear p1
        try clear q1
        try clear hx1
        try clear qi1
        try clear c2
        try clear p2
        try clear c3
        try clear c4
        try clear c4b0
        try clear c4b1
        try clear c5
        try clear c5b0
        try clear c5b1
        try clear c6
        try clear p6
        try clear q6
        try clear hx6
        try clear qi6
        try clear c7
        try clear c7b0
        try clear c7b1
        try clear p7
        try clear q7
        try clear hx7
        try clear qi7
        try clear c8
        try clear c8b0
        try clear c8b1
        try clear p8
        try clear q8
        try clear hx8
        try clear qi8
        try clear c9
        try clear p9
        try clear q9
        try clear hx9
        try clear qi9
        try clear c10
        try clear c10b0
        try clear c10b1
        try clear c11
        try clear c11b0
        try clear c11b1
        try clear p12
        try clear q12
        try clear hx12
        try clear qi12
        try clear c13
        try clear c13b0
        try clear c13b1
        try clear c14
        try clear c14b0
        try clear c14b1
        try clear p15
        try clear q15
        try clear hx15
        try clear qi15
        try clear c16
        try clear c16b0
        try clear c16b1
        try clear c17
        try clear c17b0
        try clear c17b1
        try clear p18
        try clear q18
        try clear hx18
        try clear qi18
        try clear c19
        try clear c28
        try clear c28b0
        try clear c28b1
        try clear c29
        try clear c29b0
        try clear c29b1
        try clear c31
        try clear c33
        try clear c42
        try clear c49
        try clear c49b0
        try clear c49b1
        try clear c51
        try clear c53
        try clear c62
        try clear c73
        try clear c76
        try clear c76b0
        try clear c76b1
        try clear c77
        try clear c77b0
        try clear c77b1
        try clear p78
        try clear q78
        try clear hx78
        try clear qi78
        try clear c79
        try clear c79b0
        try clear c79b1
        try clear c80
        try clear c80b0
        try clear c80b1
        try clear p81
        try clear q81
        try clear hx81
        try clear qi81
        try clear c82
        try clear c82b0
        try clear c82b1
        try clear c84
        try clear p86
        try clear q86
        try clear hx86
        try clear qi86
        try clear c87
        try clear c87b0
        try clear c87b1
        try clear c88
        try clear c88b0
        try clear c88b1
        try clear p89
        try clear q89
        try clear hx89
        try clear qi89
        try clear c90
        try clear c90b0
        try clear c90b1
        try clear c92
        try clear hcz20_0
        try clear hcz20_1
        try clear hcz20_2
        try clear hcz20_3
        try clear hcz20_4
        try clear hcz20_5
        try clear hcz20_6
        try clear hcz20_7
        try clear hcz34_0
        try clear hcz34_1
        try clear hcz34_2
        try clear hcz34_3
        try clear hcz34_4
        try clear hcz34_5
        try clear hcz34_6
        try clear hcz34_7
        try clear hcz36_0
        try clear hcz36_1
        try clear hcz36_2
        try clear hcz36_3
        try clear hcz36_4
        try clear hcz36_5
        try clear hcz36_6
        try clear hcz36_7
        try clear hcz38_0
        try clear hcz38_1
        try clear hcz38_2
        try clear hcz38_3
        try clear hcz38_4
        try clear hcz38_5
        try clear hcz38_6
        try clear hcz38_7
        try clear hcz39_0
        try clear hcz39_1
        try clear hcz39_2
        try clear hcz39_3
        try clear hcz39_4
        try clear hcz39_5
        try clear hcz39_6
        try clear hcz39_7
        try clear hcz43_0
        try clear hcz43_1
        try clear hcz43_2
        try clear hcz43_3
        try clear hcz43_4
        try clear hcz43_5
        try clear hcz43_6
        try clear hcz43_7
        try clear hcz45_0
        try clear hcz45_1
        try clear hcz45_2
        try clear hcz45_3
        try clear hcz45_4
        try clear hcz45_5
        try clear hcz45_6
        try clear hcz45_7
        try clear hcz47_0
        try clear hcz47_1
        try clear hcz47_2
        try clear hcz47_3
        try clear hcz47_4
        try clear hcz47_5
        try clear hcz47_6
        try clear hcz47_7
        try clear hcz54_0
        try clear hcz54_1
        try clear hcz54_2
        try clear hcz54_3
        try clear hcz54_4
        try clear hcz54_5
        try clear hcz54_6
        try clear hcz54_7
        try clear hcz56_0
        try clear hcz56_1
        try clear hcz56_2
        try clear hcz56_3
        try clear hcz56_4
        try clear hcz56_5
        try clear hcz56_6
        try clear hcz56_7
        try clear hcz58_0
        try clear hcz58_1
        try clear hcz58_2
        try clear hcz58_3
        try clear hcz58_4
        try clear hcz58_5
        try clear hcz58_6
        try clear hcz58_7
        try clear hcz59_0
        try clear hcz59_1
        try clear hcz59_2
        try clear hcz59_3
        try clear hcz59_4
        try clear hcz59_5
        try clear hcz59_6
        try clear hcz59_7
        try clear hcz63_0
        try clear hcz63_1
        try clear hcz63_2
        try clear hcz63_3
        try clear hcz63_4
        try clear hcz63_5
        try clear hcz63_6
        try clear hcz63_7
        try clear hcz65_0
        try clear hcz65_1
        try clear hcz65_2
        try clear hcz65_3
        try clear hcz65_4
        try clear hcz65_5
        try clear hcz65_6
        try clear hcz65_7
        try clear hcz67_0
        try clear hcz67_1
        try clear hcz67_2
        try clear hcz67_3
        try clear hcz67_4
        try clear hcz67_5
        try clear hcz67_6
        try clear hcz67_7
        try clear hcz74_0
        try clear hcz74_1
        try clear hcz74_2
        try clear hcz74_3
        try clear hcz74_4
        try clear hcz74_5
        try clear hcz74_6
        try clear hcz74_7
        try clear hfz20_0
        try clear hfz20_1
        try clear hfz20_2
        try clear hfz20_3
        try clear hfz20_4
        try clear hfz20_5
        try clear hfz20_6
        try clear hfz20_7
        try clear hfz34_0
        try clear hfz34_1
        try clear hfz34_2
        try clear hfz34_3
        try clear hfz34_4
        try clear hfz34_5
        try clear hfz34_6
        try clear hfz34_7
        try clear hfz36_0
        try clear hfz36_1
        try clear hfz36_2
        try clear hfz36_3
        try clear hfz36_4
        try clear hfz36_5
        try clear hfz36_6
        try clear hfz36_7
        try clear hfz38_0
        try clear hfz38_1
        try clear hfz38_2
        try clear hfz38_3
        try clear hfz38_4
        try clear hfz38_5
        try clear hfz38_6
        try clear hfz38_7
        try clear hfz39_0
        try clear hfz39_1
        try clear hfz39_2
        try clear hfz39_3
        try clear hfz39_4
        try clear hfz39_5
        try clear hfz39_6
        try clear hfz39_7
        try clear hfz43_0
        try clear hfz43_1
        try clear hfz43_2
        try clear hfz43_3
        try clear hfz43_4
        try clear hfz43_5
        try clear hfz43_6
        try clear hfz43_7
        try clear hfz45_0
        try clear hfz45_1
        try clear hfz45_2
        try clear hfz45_3
        try clear hfz45_4
        try clear hfz45_5
        try clear hfz45_6
        try clear hfz45_7
        try clear hfz47_0
        try clear hfz47_1
        try clear hfz47_2
        try clear hfz47_3
        try clear hfz47_4
        try clear hfz47_5
        try clear hfz47_6
        try clear hfz47_7
        try clear hfz54_0
        try clear hfz54_1
        try clear hfz54_2
        try clear hfz54_3
        try clear hfz54_4
        try clear hfz54_5
        try clear hfz54_6
        try clear hfz54_7
        try clear hfz56_0
        try clear hfz56_1
        try clear hfz56_2
        try clear hfz56_3
        try clear hfz56_4
        try clear hfz56_5
        try clear hfz56_6
        try clear hfz56_7
        try clear hfz58_0
        try clear hfz58_1
        try clear hfz58_2
        try clear hfz58_3
        try clear hfz58_4
        try clear hfz58_5
        try clear hfz58_6
        try clear hfz58_7
        try clear hfz59_0
        try clear hfz59_1
        try clear hfz59_2
        try clear hfz59_3
        try clear hfz59_4
        try clear hfz59_5
        try clear hfz59_6
        try clear hfz59_7
        try clear hfz63_0
        try clear hfz63_1
        try clear hfz63_2
        try clear hfz63_3
        try clear hfz63_4
        try clear hfz63_5
        try clear hfz63_6
        try clear hfz63_7
        try clear hfz65_0
        try clear hfz65_1
        try clear hfz65_2
        try clear hfz65_3
        try clear hfz65_4
        try clear hfz65_5
        try clear hfz65_6
        try clear hfz65_7
        try clear hfz67_0
        try clear hfz67_1
        try clear hfz67_2
        try clear hfz67_3
        try clear hfz67_4
        try clear hfz67_5
        try clear hfz67_6
        try clear hfz67_7
        try clear hfz74_0
        try clear hfz74_1
        try clear hfz74_2
        try clear hfz74_3
        try clear hfz74_4
        try clear hfz74_5
        try clear hfz74_6
        try clear hfz74_7
        try clear p1
        try clear p12
        try clear p15
        try clear p18
        try clear p2
        try clear p6
        try clear p78
        try clear p81
        try clear p86
        try clear p89
        try clear p9
        try clear q1
        try clear q12
        try clear q15
        try clear q18
        try clear q6
        try clear q78
        try clear q81
        try clear q86
        try clear q89
        try clear q9
        obtain ⟨kq, x90_70, rfl, HA, HJ70, BK115, BK122, HB⟩ := hcut
        cases kq with
        | zero => exact absurd HA.out (by simp [spec_ReadDate.j1])
        | succ kj70 =>
         have H := HA.out
         clear HA
         simp only [spec_ReadDate.j1] at H
         by_cases c94 : x90_70 = true
         ·subst c94
          have H1 : (some (0, 0, 0, 0, 0, 0, false, 0, false)) = some (r1, r2, r3, r4, r5, r6, r7, r8, r9) := by rw [if_pos rfl] at H; exact H
          clear H
          have H := H1
          clear H1
          simp only [Option.some.injEq, Prod.mk.injEq] at H
          obtain ⟨rfl, rfl, rfl, rfl, rfl, rfl, rfl, rfl, rfl⟩ := H
          have hnb95 := NB115_122.out
          have hnc95 := NB122_115.out
          have hcz96_0 : wc.cell? ⟨gb115, 0, none⟩ = some (.int .i64 0) := (blk_cell BK115.out 0).trans rfl
          have hcz96_1 : wc.cell? ⟨gb115, 1, none⟩ = some (.int .i64 0) := (blk_cell BK115.out 1).trans rfl
          have hcz96_2 : wc.cell? ⟨gb115, 2, none⟩ = some (.int .i64 0) := (blk_cell BK115.out 2).trans rfl
          have hcz96_3 : wc.cell? ⟨gb115, 3, none⟩ = some (.int .i64 0) := (blk_cell BK115.out 3).trans rfl
          have hcz96_4 : wc.cell? ⟨gb115, 4, none⟩ = some (.int .i64 0) := (blk_cell BK115.out 4).trans rfl
          have hcz96_5 : wc.cell? ⟨gb115, 5, none⟩ = some (.int .i64 0) := (blk_cell BK115.out 5).trans rfl
          have hcz96_6 : wc.cell? ⟨gb115, 6, none⟩ = some (.bool false) := (blk_cell BK115.out 6).trans rfl
          have hcz96_7 : wc.cell? ⟨gb115, 7, none⟩ = some (.int .i64 0) := (blk_cell BK115.out 7).trans rfl
          have hfz96_0 := blk_frozen BK115.out 0
          have hfz96_1 := blk_frozen BK115.out 1
          have hfz96_2 := blk_frozen BK115.out 2
          have hfz96_3 := blk_frozen BK115.out 3
          have hfz96_4 := blk_frozen BK115.out 4
          have hfz96_5 := blk_frozen BK115.out 5
          have hfz96_6 := blk_frozen BK115.out 6
          have hfz96_7 := blk_frozen BK115.out 7
          go_wp2_with (first | ((with_reducible refine gate_store (t := 23) (p := 2) rfl ?_); refine store_event (t := 23) (p := 2) (v := ?vo_w97) (w1 := ((((((((wc.setCell ⟨gb115, 0, none⟩ (.int .i64 0)).setCell ⟨gb115, 1, none⟩ (.int .i64 0)).setCell ⟨gb115, 2, none⟩ (.int .i64 0)).setCell ⟨gb115, 3, none⟩ (.int .i64 0)).setCell ⟨gb115, 4, none⟩ (.int .i64 0)).setCell ⟨gb115, 5, none⟩ (.int .i64 0)).setCell ⟨gb115, 6, none⟩ (.bool false)).setCell ⟨gb115, 7, none⟩ (.int .i64 0))) ?hg ?ho ?hn ?hr ?_; (case ho => rfl); (case hg => rfl); (case hn => rfl); (case hr => first | (go_simp; done) | (go_simp; rfl)); intro w97 hw; have n0_ : Aside0 (w97.heap[gb115]? = some (.cells #[.int .i64 0, .int .i64 0, .int .i64 0, .int .i64 0, .int .i64 0, .int .i64 0, .bool false, .int .i64 0] 23 (0, 0))) := ⟨(by rw [hw]; exact (by (with_reducible repeat (first | refine blk_drewN ?_ _ | refine blk_drew ?_ | refine blk_alloc ?_ _)); refine blk_put (cs := #[.int .i64 0, .int .i64 0, .int .i64 0, .int .i64 0, .int .i64 0, .int .i64 0, .bool false, .int .i64 0]) ?_ 7 _ rfl; (with_reducible repeat (first | refine blk_drewN ?_ _ | refine blk_drew ?_ | refine blk_alloc ?_ _)); refine blk_put (cs := #[.int .i64 0, .int .i64 0, .int .i64 0, .int .i64 0, .int .i64 0, .int .i64 0, .bool false, .int .i64 0]) ?_ 6 _ rfl; (with_reducible repeat (first | refine blk_drewN ?_ _ | refine blk_drew ?_ | refine blk_alloc ?_ _)); refine blk_put (cs := #[.int .i64 0, .int .i64 0, .int .i64 0, .int .i64 0, .int .i64 0, .int .i64 0, .bool false, .int .i64 0]) ?_ 5 _ rfl; (with_reducible repeat (first | refine blk_drewN ?_ _ | refine blk_drew ?_ | refine blk_alloc ?_ _)); refine blk_put (cs := #[.int .i64 0, .int .i64 0, .int .i64 0, .int .i64 0, .int .i64 0, .int .i64 0, .bool false, .int .i64 0]) ?_ 4 _ rfl; (with_reducible repeat (first | refine blk_drewN ?_ _ | refine blk_drew ?_ | refine blk_alloc ?_ _)); refine blk_put (cs := #[.int .i64 0, .int .i64 0, .int .i64 0, .int .i64 0, .int .i64 0, .int .i64 0, .bool false, .int .i64 0]) ?_ 3 _ rfl; (with_reducible repeat (first | refine blk_drewN ?_ _ | refine blk_drew ?_ | refine blk_alloc ?_ _)); refine blk_put (cs := #[.int .i64 0, .int .i64 0, .int .i64 0, .int .i64 0, .int .i64 0, .int .i64 0, .bool false, .int .i64 0]) ?_ 2 _ rfl; (with_reducible repeat (first | refine blk_drewN ?_ _ | refine blk_drew ?_ | refine blk_alloc ?_ _)); refine blk_put (cs := #[.int .i64 0, .int .i64 0, .int .i64 0, .int .i64 0, .int .i64 0, .int .i64 0, .bool false, .int .i64 0]) ?_ 1 _ rfl; (with_reducible repeat (first | refine blk_drewN ?_ _ | refine blk_drew ?_ | refine blk_alloc ?_ _)); refine blk_put (cs := #[.int .i64 0, .int .i64 0, .int .i64 0, .int .i64 0, .int .i64 0, .int .i64 0, .bool false, .int .i64 0]) ?_ 0 _ rfl; (with_reducible repeat (first | refine blk_drewN ?_ _ | refine blk_drew ?_ | refine blk_alloc ?_ _)); exact BK115.out))⟩; have n1_ : Aside0 (w97.heap[gb122]? = some (.cells #[.int .i64 t116, .int .i64 t117, .int .i64 t118, .int .i64 t119, .int .i64 t120, .int .i64 t121, .bool false, .int .i64 0] 23 (0, 0))) := ⟨(by rw [hw]; exact (by (with_reducible repeat (first | refine blk_drewN ?_ _ | refine blk_drew ?_ | refine blk_alloc ?_ _)); refine blk_far ?_ NB122_115.out _; (with_reducible repeat (first | refine blk_drewN ?_ _ | refine blk_drew ?_ | refine blk_alloc ?_ _)); refine blk_far ?_ NB122_115.out _; (with_reducible repeat (first | refine blk_drewN ?_ _ | refine blk_drew ?_ | refine blk_alloc ?_ _)); refine blk_far ?_ NB122_115.out _; (with_reducible repeat (first | refine blk_drewN ?_ _ | refine blk_drew ?_ | refine blk_alloc ?_ _)); refine blk_far ?_ NB122_115.out _; (with_reducible repeat (first | refine blk_drewN ?_ _ | refine blk_drew ?_ | refine blk_alloc ?_ _)); refine blk_far ?_ NB122_115.out _; (with_reducible repeat (first | refine blk_drewN ?_ _ | refine blk_drew ?_ | refine blk_alloc ?_ _)); refine blk_far ?_ NB122_115.out _; (with_reducible repeat (first | refine blk_drewN ?_ _ | refine blk_drew ?_ | refine blk_alloc ?_ _)); refine blk_far ?_ NB122_115.out _; (with_reducible repeat (first | refine blk_drewN ?_ _ | refine blk_drew ?_ | refine blk_alloc ?_ _)); refine blk_far ?_ NB122_115.out _; (with_reducible repeat (first | refine blk_drewN ?_ _ | refine blk_drew ?_ | refine blk_alloc ?_ _)); exact BK122.out))⟩; have n2_ : Aside0 (Below w.heap.size w w97) := ⟨(by rw [hw]; exact (by repeat (first | (with_reducible first | exact HB.out | apply below_alloc | apply pw_below_drewN | apply below_drew1 | refine below_set ?_ GE115.out | refine below_set ?_ GE122.out) | exact HB.out)))⟩; clear hw; clear BK115; clear BK122; clear HB; have BK115 := n0_; have BK122 := n1_; have HB := n2_; clear n0_ n1_ n2_))
          refine bodyPost_ret (results_ct rfl _ _ gb115 23 #[.int .i64 0, .int .i64 0, .int .i64 0, .int .i64 0, .int .i64 0, .int .i64 0, .bool false, .int .i64 0] (0, 0) _ rfl (by (with_reducible repeat (first | refine blk_drewN ?_ _ | refine blk_drew ?_ | refine blk_alloc ?_ _)); exact BK115.out) Tryd.underlying23 rfl (by kernel_rfl)) rfl ?_
          exact ⟨by first | rfl | (simp only [show ∀ l_ : List UInt8, (l_ != []) = !l_.isEmpty from fun l_ => by cases l_ <;> rfl, show ∀ l_ : List UInt8, (l_ == []) = l_.isEmpty from fun l_ => by cases l_ <;> rfl]; rfl) | (simp [*] <;> rfl), by repeat (first | (with_reducible first | exact HB.out | apply below_alloc | apply pw_below_drewN | apply below_drew1 | refine below_set ?_ GE115.out | refine below_set ?_ GE122.out) | exact HB.out)⟩
         ·replace c94 := Bool.eq_false_iff.mpr c94
          subst c94
          have H1 : (if 0 < (zz.size : Int) then (if (bt zz 0) = 45 then ((spec_DateOk.f kj70 t116 t117 t118 t119 t120 t121 true (wrap64 (-(wrap64 ((wrap64 (60 * t125)) + t126))))).bind fun t131 => (if t131 = true then (some (t116, t117, t118, t119, t120, t121, true, wrap64 (-(wrap64 ((wrap64 (60 * t125)) + t126))), true)) else (some (0, 0, 0, 0, 0, 0, false, 0, false)))) else ((spec_DateOk.f kj70 t116 t117 t118 t119 t120 t121 true (wrap64 ((wrap64 (60 * t125)) + t126))).bind fun t132 => (if t132 = true then (some (t116, t117, t118, t119, t120, t121, true, wrap64 ((wrap64 (60 * t125)) + t126), true)) else (some (0, 0, 0, 0, 0, 0, false, 0, false))))) else (none)) = some (r1, r2, r3, r4, r5, r6, r7, r8, r9) := by rw [if_neg (show ¬ (false = true) by decide)] at H; exact H
          clear H
          have H := H1
          clear H1
          by_cases c98 : 0 < (zz.size : Int)
          ·rw [if_pos c98] at H
           have c98b0 : decide (0 < (zz.size : Int)) = true := decide_eq_true c98
           have c98b1 : decide (0 < zz.size) = true := decide_eq_true (by omega)
           clear c98
           by_cases c100 : (bt zz 0) = 45
           ·rw [if_pos c100] at H
            have c100b0 : ((bt zz 0) == 45) = true := beq_iff_eq.mpr c100
            have c100b1 : ((bt zz 0) != 45) = false := bne_eq_false_iff_eq.mpr c100
            clear c100
            replace H := Option.bind_eq_some_iff.mp H
            obtain ⟨t131, A1010, H⟩ := H
            replace H : (if t131 = true then (some (t116, t117, t118, t119, t120, t121, true, wrap64 (-(wrap64 ((wrap64 (60 * t125)) + t126))), true)) else (some (0, 0, 0, 0, 0, 0, false, 0, false))) = some (r1, r2, r3, r4, r5, r6, r7, r8, r9) := H
            have A101 := Aside0.mk A1010
            clear A1010
            by_cases c102 : t131 = true
            ·subst c102
             have H1 : (some (t116, t117, t118, t119, t120, t121, true, wrap64 (-(wrap64 ((wrap64 (60 * t125)) + t126))), true)) = some (r1, r2, r3, r4, r5, r6, r7, r8, r9) := by rw [if_pos rfl] at H; exact H
             clear H
             have H := H1
             clear H1
             simp only [Option.some.injEq, Prod.mk.injEq] at H
             obtain ⟨rfl, rfl, rfl, rfl, rfl, rfl, rfl, rfl, rfl⟩ := H
             have hnb103 := NB122_115.out
             have hnc103 := NB115_122.out
             have hcz104_0 : wc.cell? ⟨gb122, 0, none⟩ = some (.int .i64 t116) := (blk_cell BK122.out 0).trans rfl
             have hcz104_1 : wc.cell? ⟨gb122, 1, none⟩ = some (.int .i64 t117) := (blk_cell BK122.out 1).trans rfl
             have hcz104_2 : wc.cell? ⟨gb122, 2, none⟩ = some (.int .i64 t118) := (blk_cell BK122.out 2).trans rfl
             have hcz104_3 : wc.cell? ⟨gb122, 3, none⟩ = some (.int .i64 t119) := (blk_cell BK122.out 3).trans rfl
             have hcz104_4 : wc.cell? ⟨gb122, 4, none⟩ = some (.int .i64 t120) := (blk_cell BK122.out 4).trans rfl
             have hcz104_5 : wc.cell? ⟨gb122, 5, none⟩ = some (.int .i64 t121) := (blk_cell BK122.out 5).trans rfl
             have hcz104_6 : wc.cell? ⟨gb122, 6, none⟩ = some (.bool false) := (blk_cell BK122.out 6).trans rfl
             have hcz104_7 : wc.cell? ⟨gb122, 7, none⟩ = some (.int .i64 0) := (blk_cell BK122.out 7).trans rfl
             have hfz104_0 := blk_frozen BK122.out 0
             have hfz104_1 := blk_frozen BK122.out 1
             have hfz104_2 := blk_frozen BK122.out 2
             have hfz104_3 := blk_frozen BK122.out 3
             have hfz104_4 := blk_frozen BK122.out 4
             have hfz104_5 := blk_frozen BK122.out 5
             have hfz104_6 := blk_frozen BK122.out 6
             have hfz104_7 := blk_frozen BK122.out 7
             have p99 : 0 ≤ (0 : Int) := (by omega)
             have q99 : 0 < zz.size := (by have : (0 : Int) < (zz.size : Int) := of_decide_eq_true (by first | (with_reducible assumption) | assumption); omega)
             have hx99 : ∀ h : 0 < zz.size, ((zz[0]'h).toNat : Int) = bt zz 0 := bt_at zz 0
             clear p99
             have qi99 : (0 < (zz.size : Int)) = True := eq_true (of_decide_eq_true (by first | (with_reducible assumption) | assumption))
             replace q99 := eq_true q99
             go_wp2_with (first | ((with_reducible refine gate_store (t := 2) (p := 104) rfl ?_); refine store_event (t := 2) (p := 104) (v := ?vo_w105) (w1 := (((wc.setCell ⟨gb122, 6, none⟩ (.bool true)).setCell ⟨gb122, 7, none⟩ (.int .i64 (wrap64 ((wrap64 (60 * t125)) + t126)))).setCell ⟨gb122, 7, none⟩ (.int .i64 (wrap64 (-(wrap64 ((wrap64 (60 * t125)) + t126))))))) ?hg ?ho ?hn ?hr ?_; (case ho => rfl); (case hg => rfl); (case hn => rfl); (case hr => first | (go_simp; done) | (go_simp; rfl)); intro w105 hw; have n0_ : Aside0 (w105.heap[gb115]? = some (.cells #[.int .i64 0, .int .i64 0, .int .i64 0, .int .i64 0, .int .i64 0, .int .i64 0, .bool false, .int .i64 0] 23 (0, 0))) := ⟨(by rw [hw]; exact (by (with_reducible repeat (first | refine blk_drewN ?_ _ | refine blk_drew ?_ | refine blk_alloc ?_ _)); refine blk_far ?_ NB115_122.out _; (with_reducible repeat (first | refine blk_drewN ?_ _ | refine blk_drew ?_ | refine blk_alloc ?_ _)); refine blk_far ?_ NB115_122.out _; (with_reducible repeat (first | refine blk_drewN ?_ _ | refine blk_drew ?_ | refine blk_alloc ?_ _)); refine blk_far ?_ NB115_122.out _; (with_reducible repeat (first | refine blk_drewN ?_ _ | refine blk_drew ?_ | refine blk_alloc ?_ _)); exact BK115.out))⟩; have n1_ : Aside0 (w105.heap[gb122]? = some (.cells #[.int .i64 t116, .int .i64 t117, .int .i64 t118, .int .i64 t119, .int .i64 t120, .int .i64 t121, .bool true, .int .i64 (wrap64 (-(wrap64 ((wrap64 (60 * t125)) + t126))))] 23 (0, 0))) := ⟨(by rw [hw]; exact (by (with_reducible repeat (first | refine blk_drewN ?_ _ | refine blk_drew ?_ | refine blk_alloc ?_ _)); refine blk_put (cs := #[.int .i64 t116, .int .i64 t117, .int .i64 t118, .int .i64 t119, .int .i64 t120, .int .i64 t121, .bool true, .int .i64 (wrap64 ((wrap64 (60 * t125)) + t126))]) ?_ 7 _ rfl; (with_reducible repeat (first | refine blk_drewN ?_ _ | refine blk_drew ?_ | refine blk_alloc ?_ _)); refine blk_put (cs := #[.int .i64 t116, .int .i64 t117, .int .i64 t118, .int .i64 t119, .int .i64 t120, .int .i64 t121, .bool true, .int .i64 0]) ?_ 7 _ rfl; (with_reducible repeat (first | refine blk_drewN ?_ _ | refine blk_drew ?_ | refine blk_alloc ?_ _)); refine blk_put (cs := #[.int .i64 t116, .int .i64 t117, .int .i64 t118, .int .i64 t119, .int .i64 t120, .int .i64 t121, .bool false, .int .i64 0]) ?_ 6 _ rfl; (with_reducible repeat (first | refine blk_drewN ?_ _ | refine blk_drew ?_ | refine blk_alloc ?_ _)); exact BK122.out))⟩; have n2_ : Aside0 (Below w.heap.size w w105) := ⟨(by rw [hw]; exact (by repeat (first | (with_reducible first | exact HB.out | apply below_alloc | apply pw_below_drewN | apply below_drew1 | refine below_set ?_ GE115.out | refine below_set ?_ GE122.out) | exact HB.out)))⟩; clear hw; clear BK115; clear BK122; clear HB; have BK115 := n0_; have BK122 := n1_; have HB := n2_; clear n0_ n1_ n2_; have hcz106_0 : w105.cell? ⟨gb122, 0, none⟩ = some (.int .i64 t116) := (blk_cell BK122.out 0).trans rfl; have hcz106_1 : w105.cell? ⟨gb122, 1, none⟩ = some (.int .i64 t117) := (blk_cell BK122.out 1).trans rfl; have hcz106_2 : w105.cell? ⟨gb122, 2, none⟩ = some (.int .i64 t118) := (blk_cell BK122.out 2).trans rfl; have hcz106_3 : w105.cell? ⟨gb122, 3, none⟩ = some (.int .i64 t119) := (blk_cell BK122.out 3).trans rfl; have hcz106_4 : w105.cell? ⟨gb122, 4, none⟩ = some (.int .i64 t120) := (blk_cell BK122.out 4).trans rfl; have hcz106_5 : w105.cell? ⟨gb122, 5, none⟩ = some (.int .i64 t121) := (blk_cell BK122.out 5).trans rfl; have hcz106_6 : w105.cell? ⟨gb122, 6, none⟩ = some (.bool true) := (blk_cell BK122.out 6).trans rfl; have hcz106_7 : w105.cell? ⟨gb122, 7, none⟩ = some (.int .i64 (wrap64 (-(wrap64 ((wrap64 (60 * t125)) + t126))))) := (blk_cell BK122.out 7).trans rfl; have hfz106_0 := blk_frozen BK122.out 0; have hfz106_1 := blk_frozen BK122.out 1; have hfz106_2 := blk_frozen BK122.out 2; have hfz106_3 := blk_frozen BK122.out 3; have hfz106_4 := blk_frozen BK122.out 4; have hfz106_5 := blk_frozen BK122.out 5; have hfz106_6 := blk_frozen BK122.out 6; have hfz106_7 := blk_frozen BK122.out 7) | ((with_reducible refine gate_callee (f := 13) rfl ?_); refine goesL_ (some 106) rfl rfl Tryd.func13 (by kernel_rfl) rfl #[.agg #[.int .i64 t116, .int .i64 t117, .int .i64 t118, .int .i64 t119, .int .i64 t120, .int .i64 t121, .bool true, .int .i64 (wrap64 (-(wrap64 ((wrap64 (60 * t125)) + t126))))]] rfl (by (try simp only [List.map_toArray, List.map_cons, List.map_nil]); first | done | rfl | (simp only [List.length_drop, List.length_take]; rfl)) ?_; (with_reducible refine (spec_DateOk.calls kj70 t116 t117 t118 t119 t120 t121 true (wrap64 (-(wrap64 ((wrap64 (60 * t125)) + t126)))) true _ A101.out).mono ?_); rintro e w107 ⟨rfl, hb⟩; refine ⟨_, rfl, ?_⟩; have n0_ := Aside0.mk (blk_below (g := gb115) (o := .cells #[.int .i64 0, .int .i64 0, .int .i64 0, .int .i64 0, .int .i64 0, .int .i64 0, .bool false, .int .i64 0] 23 (0, 0)) (by (with_reducible repeat (first | refine blk_drewN ?_ _ | refine blk_drew ?_ | refine blk_alloc ?_ _)); exact BK115.out) hb); have n1_ := Aside0.mk (blk_below (g := gb122) (o := .cells #[.int .i64 t116, .int .i64 t117, .int .i64 t118, .int .i64 t119, .int .i64 t120, .int .i64 t121, .bool true, .int .i64 (wrap64 (-(wrap64 ((wrap64 (60 * t125)) + t126))))] 23 (0, 0)) (by (with_reducible repeat (first | refine blk_drewN ?_ _ | refine blk_drew ?_ | refine blk_alloc ?_ _)); exact BK122.out) hb); have n2_ := Aside0.mk (below_step (by repeat (first | (with_reducible first | exact HB.out | apply below_alloc | apply pw_below_drewN | apply below_drew1 | refine below_set ?_ GE115.out | refine below_set ?_ GE122.out) | exact HB.out)) hb); clear BK115; clear BK122; clear HB; have BK115 := n0_; have BK122 := n1_; have HB := n2_; clear n0_ n1_ n2_; (try clear hb); (try clear hb2); (try clear hk); (try clear hi); have hcz108_0 : w107.cell? ⟨gb122, 0, none⟩ = some (.int .i64 t116) := (blk_cell BK122.out 0).trans rfl; have hcz108_1 : w107.cell? ⟨gb122, 1, none⟩ = some (.int .i64 t117) := (blk_cell BK122.out 1).trans rfl; have hcz108_2 : w107.cell? ⟨gb122, 2, none⟩ = some (.int .i64 t118) := (blk_cell BK122.out 2).trans rfl; have hcz108_3 : w107.cell? ⟨gb122, 3, none⟩ = some (.int .i64 t119) := (blk_cell BK122.out 3).trans rfl; have hcz108_4 : w107.cell? ⟨gb122, 4, none⟩ = some (.int .i64 t120) := (blk_cell BK122.out 4).trans rfl; have hcz108_5 : w107.cell? ⟨gb122, 5, none⟩ = some (.int .i64 t121) := (blk_cell BK122.out 5).trans rfl; have hcz108_6 : w107.cell? ⟨gb122, 6, none⟩ = some (.bool true) := (blk_cell BK122.out 6).trans rfl; have hcz108_7 : w107.cell? ⟨gb122, 7, none⟩ = some (.int .i64 (wrap64 (-(wrap64 ((wrap64 (60 * t125)) + t126))))) := (blk_cell BK122.out 7).trans rfl; have hfz108_0 := blk_frozen BK122.out 0; have hfz108_1 := blk_frozen BK122.out 1; have hfz108_2 := blk_frozen BK122.out 2; have hfz108_3 := blk_frozen BK122.out 3; have hfz108_4 := blk_frozen BK122.out 4; have hfz108_5 := blk_frozen BK122.out 5; have hfz108_6 := blk_frozen BK122.out 6; have hfz108_7 := blk_frozen BK122.out 7; have hcz109_0 : w107.cell? ⟨gb115, 0, none⟩ = some (.int .i64 0) := (blk_cell BK115.out 0).trans rfl; have hcz109_1 : w107.cell? ⟨gb115, 1, none⟩ = some (.int .i64 0) := (blk_cell BK115.out 1).trans rfl; have hcz109_2 : w107.cell? ⟨gb115, 2, none⟩ = some (.int .i64 0) := (blk_cell BK115.out 2).trans rfl; have hcz109_3 : w107.cell? ⟨gb115, 3, none⟩ = some (.int .i64 0) := (blk_cell BK115.out 3).trans rfl; have hcz109_4 : w107.cell? ⟨gb115, 4, none⟩ = some (.int .i64 0) := (blk_cell BK115.out 4).trans rfl; have hcz109_5 : w107.cell? ⟨gb115, 5, none⟩ = some (.int .i64 0) := (blk_cell BK115.out 5).trans rfl; have hcz109_6 : w107.cell? ⟨gb115, 6, none⟩ = some (.bool false) := (blk_cell BK115.out 6).trans rfl; have hcz109_7 : w107.cell? ⟨gb115, 7, none⟩ = some (.int .i64 0) := (blk_cell BK115.out 7).trans rfl; have hfz109_0 := blk_frozen BK115.out 0; have hfz109_1 := blk_frozen BK115.out 1; have hfz109_2 := blk_frozen BK115.out 2; have hfz109_3 := blk_frozen BK115.out 3; have hfz109_4 := blk_frozen BK115.out 4; have hfz109_5 := blk_frozen BK115.out 5; have hfz109_6 := blk_frozen BK115.out 6; have hfz109_7 := blk_frozen BK115.out 7) | ((with_reducible refine gate_store (t := 23) (p := 2) rfl ?_); refine store_event (t := 23) (p := 2) (v := ?vo_w110) (w1 := ((((((((w107.setCell ⟨gb115, 0, none⟩ (.int .i64 t116)).setCell ⟨gb115, 1, none⟩ (.int .i64 t117)).setCell ⟨gb115, 2, none⟩ (.int .i64 t118)).setCell ⟨gb115, 3, none⟩ (.int .i64 t119)).setCell ⟨gb115, 4, none⟩ (.int .i64 t120)).setCell ⟨gb115, 5, none⟩ (.int .i64 t121)).setCell ⟨gb115, 6, none⟩ (.bool true)).setCell ⟨gb115, 7, none⟩ (.int .i64 (wrap64 (-(wrap64 ((wrap64 (60 * t125)) + t126))))))) ?hg ?ho ?hn ?hr ?_; (case ho => rfl); (case hg => rfl); (case hn => rfl); (case hr => first | (go_simp; done) | (go_simp; rfl)); intro w110 hw; have n0_ : Aside0 (w110.heap[gb115]? = some (.cells #[.int .i64 t116, .int .i64 t117, .int .i64 t118, .int .i64 t119, .int .i64 t120, .int .i64 t121, .bool true, .int .i64 (wrap64 (-(wrap64 ((wrap64 (60 * t125)) + t126))))] 23 (0, 0))) := ⟨(by rw [hw]; exact (by (with_reducible repeat (first | refine blk_drewN ?_ _ | refine blk_drew ?_ | refine blk_alloc ?_ _)); refine blk_put (cs := #[.int .i64 t116, .int .i64 t117, .int .i64 t118, .int .i64 t119, .int .i64 t120, .int .i64 t121, .bool true, .int .i64 0]) ?_ 7 _ rfl; (with_reducible repeat (first | refine blk_drewN ?_ _ | refine blk_drew ?_ | refine blk_alloc ?_ _)); refine blk_put (cs := #[.int .i64 t116, .int .i64 t117, .int .i64 t118, .int .i64 t119, .int .i64 t120, .int .i64 t121, .bool false, .int .i64 0]) ?_ 6 _ rfl; (with_reducible repeat (first | refine blk_drewN ?_ _ | refine blk_drew ?_ | refine blk_alloc ?_ _)); refine blk_put (cs := #[.int .i64 t116, .int .i64 t117, .int .i64 t118, .int .i64 t119, .int .i64 t120, .int .i64 0, .bool false, .int .i64 0]) ?_ 5 _ rfl; (with_reducible repeat (first | refine blk_drewN ?_ _ | refine blk_drew ?_ | refine blk_alloc ?_ _)); refine blk_put (cs := #[.int .i64 t116, .int .i64 t117, .int .i64 t118, .int .i64 t119, .int .i64 0, .int .i64 0, .bool false, .int .i64 0]) ?_ 4 _ rfl; (with_reducible repeat (first | refine blk_drewN ?_ _ | refine blk_drew ?_ | refine blk_alloc ?_ _)); refine blk_put (cs := #[.int .i64 t116, .int .i64 t117, .int .i64 t118, .int .i64 0, .int .i64 0, .int .i64 0, .bool false, .int .i64 0]) ?_ 3 _ rfl; (with_reducible repeat (first | refine blk_drewN ?_ _ | refine blk_drew ?_ | refine blk_alloc ?_ _)); refine blk_put (cs := #[.int .i64 t116, .int .i64 t117, .int .i64 0, .int .i64 0, .int .i64 0, .int .i64 0, .bool false, .int .i64 0]) ?_ 2 _ rfl; (with_reducible repeat (first | refine blk_drewN ?_ _ | refine blk_drew ?_ | refine blk_alloc ?_ _)); refine blk_put (cs := #[.int .i64 t116, .int .i64 0, .int .i64 0, .int .i64 0, .int .i64 0, .int .i64 0, .bool false, .int .i64 0]) ?_ 1 _ rfl; (with_reducible repeat (first | refine blk_drewN ?_ _ | refine blk_drew ?_ | refine blk_alloc ?_ _)); refine blk_put (cs := #[.int .i64 0, .int .i64 0, .int .i64 0, .int .i64 0, .int .i64 0, .int .i64 0, .bool false, .int .i64 0]) ?_ 0 _ rfl; (with_reducible repeat (first | refine blk_drewN ?_ _ | refine blk_drew ?_ | refine blk_alloc ?_ _)); exact BK115.out))⟩; have n1_ : Aside0 (w110.heap[gb122]? = some (.cells #[.int .i64 t116, .int .i64 t117, .int .i64 t118, .int .i64 t119, .int .i64 t120, .int .i64 t121, .bool true, .int .i64 (wrap64 (-(wrap64 ((wrap64 (60 * t125)) + t126))))] 23 (0, 0))) := ⟨(by rw [hw]; exact (by (with_reducible repeat (first | refine blk_drewN ?_ _ | refine blk_drew ?_ | refine blk_alloc ?_ _)); refine blk_far ?_ NB122_115.out _; (with_reducible repeat (first | refine blk_drewN ?_ _ | refine blk_drew ?_ | refine blk_alloc ?_ _)); refine blk_far ?_ NB122_115.out _; (with_reducible repeat (first | refine blk_drewN ?_ _ | refine blk_drew ?_ | refine blk_alloc ?_ _)); refine blk_far ?_ NB122_115.out _; (with_reducible repeat (first | refine blk_drewN ?_ _ | refine blk_drew ?_ | refine blk_alloc ?_ _)); refine blk_far ?_ NB122_115.out _; (with_reducible repeat (first | refine blk_drewN ?_ _ | refine blk_drew ?_ | refine blk_alloc ?_ _)); refine blk_far ?_ NB122_115.out _; (with_reducible repeat (first | refine blk_drewN ?_ _ | refine blk_drew ?_ | refine blk_alloc ?_ _)); refine blk_far ?_ NB122_115.out _; (with_reducible repeat (first | refine blk_drewN ?_ _ | refine blk_drew ?_ | refine blk_alloc ?_ _)); refine blk_far ?_ NB122_115.out _; (with_reducible repeat (first | refine blk_drewN ?_ _ | refine blk_drew ?_ | refine blk_alloc ?_ _)); refine blk_far ?_ NB122_115.out _; (with_reducible repeat (first | refine blk_drewN ?_ _ | refine blk_drew ?_ | refine blk_alloc ?_ _)); exact BK122.out))⟩; have n2_ : Aside0 (Below w.heap.size w w110) := ⟨(by rw [hw]; exact (by repeat (first | (with_reducible first | exact HB.out | apply below_alloc | apply pw_below_drewN | apply below_drew1 | refine below_set ?_ GE115.out | refine below_set ?_ GE122.out) | exact HB.out)))⟩; clear hw; clear BK115; clear BK122; clear HB; have BK115 := n0_; have BK122 := n1_; have HB := n2_; clear n0_ n1_ n2_))
             refine bodyPost_ret (results_ct rfl _ _ gb115 23 #[.int .i64 t116, .int .i64 t117, .int .i64 t118, .int .i64 t119, .int .i64 t120, .int .i64 t121, .bool true, .int .i64 (wrap64 (-(wrap64 ((wrap64 (60 * t125)) + t126))))] (0, 0) _ rfl (by (with_reducible repeat (first | refine blk_drewN ?_ _ | refine blk_drew ?_ | refine blk_alloc ?_ _)); exact BK115.out) Tryd.underlying23 rfl (by kernel_rfl)) rfl ?_
             exact ⟨by first | rfl | (simp only [show ∀ l_ : List UInt8, (l_ != []) = !l_.isEmpty from fun l_ => by cases l_ <;> rfl, show ∀ l_ : List UInt8, (l_ == []) = l_.isEmpty from fun l_ => by cases l_ <;> rfl]; rfl) | (simp [*] <;> rfl), by repeat (first | (with_reducible first | exact HB.out | apply below_alloc | apply pw_below_drewN | apply below_drew1 | refine below_set ?_ GE115.out | refine below_set ?_ GE122.out) | exact HB.out)⟩
            ·replace c102 := Bool.eq_false_iff.mpr c102
             subst c102
             have H1 : (some (0, 0, 0, 0, 0, 0, false, 0, false)) = some (r1, r2, r3, r4, r5, r6, r7, r8, r9) := by rw [if_neg (show ¬ (false = true) by decide)] at H; exact H
             clear H
             have H := H1
             clear H1
             simp only [Option.some.injEq, Prod.mk.injEq] at H
             obtain ⟨rfl, rfl, rfl, rfl, rfl, rfl, rfl, rfl, rfl⟩ := H
             have hnb111 := NB122_115.out
             have hnc111 := NB115_122.out
             have hcz112_0 : wc.cell? ⟨gb122, 0, none⟩ = some (.int .i64 t116) := (blk_cell BK122.out 0).trans rfl
             have hcz112_1 : wc.cell? ⟨gb122, 1, none⟩ = some (.int .i64 t117) := (blk_cell BK122.out 1).trans rfl
             have hcz112_2 : wc.cell? ⟨gb122, 2, none⟩ = some (.int .i64 t118) := (blk_cell BK122.out 2).trans rfl
             have hcz112_3 : wc.cell? ⟨gb122, 3, none⟩ = some (.int .i64 t119) := (blk_cell BK122.out 3).trans rfl
             have hcz112_4 : wc.cell? ⟨gb122, 4, none⟩ = some (.int .i64 t120) := (blk_cell BK122.out 4).trans rfl
             have hcz112_5 : wc.cell? ⟨gb122, 5, none⟩ = some (.int .i64 t121) := (blk_cell BK122.out 5).trans rfl
             have hcz112_6 : wc.cell? ⟨gb122, 6, none⟩ = some (.bool false) := (blk_cell BK122.out 6).trans rfl
             have hcz112_7 : wc.cell? ⟨gb122, 7, none⟩ = some (.int .i64 0) := (blk_cell BK122.out 7).trans rfl
             have hfz112_0 := blk_frozen BK122.out 0
             have hfz112_1 := blk_frozen BK122.out 1
             have hfz112_2 := blk_frozen BK122.out 2
             have hfz112_3 := blk_frozen BK122.out 3
             have hfz112_4 := blk_frozen BK122.out 4
             have hfz112_5 := blk_frozen BK122.out 5
             have hfz112_6 := blk_frozen BK122.out 6
             have hfz112_7 := blk_frozen BK122.out 7
             have p99 : 0 ≤ (0 : Int) := (by omega)
             have q99 : 0 < zz.size := (by have : (0 : Int) < (zz.size : Int) := of_decide_eq_true (by first | (with_reducible assumption) | assumption); omega)
             have hx99 : ∀ h : 0 < zz.size, ((zz[0]'h).toNat : Int) = bt zz 0 := bt_at zz 0
             clear p99
             have qi99 : (0 < (zz.size : Int)) = True := eq_true (of_decide_eq_true (by first | (with_reducible assumption) | assumption))
             replace q99 := eq_true q99
             go_wp2_with (first | ((with_reducible refine gate_store (t := 2) (p := 104) rfl ?_); refine store_event (t := 2) (p := 104) (v := ?vo_w113) (w1 := (((wc.setCell ⟨gb122, 6, none⟩ (.bool true)).setCell ⟨gb122, 7, none⟩ (.int .i64 (wrap64 ((wrap64 (60 * t125)) + t126)))).setCell ⟨gb122, 7, none⟩ (.int .i64 (wrap64 (-(wrap64 ((wrap64 (60 * t125)) + t126))))))) ?hg ?ho ?hn ?hr ?_; (case ho => rfl); (case hg => rfl); (case hn => rfl); (case hr => first | (go_simp; done) | (go_simp; rfl)); intro w113 hw; have n0_ : Aside0 (w113.heap[gb115]? = some (.cells #[.int .i64 0, .int .i64 0, .int .i64 0, .int .i64 0, .int .i64 0, .int .i64 0, .bool false, .int .i64 0] 23 (0, 0))) := ⟨(by rw [hw]; exact (by (with_reducible repeat (first | refine blk_drewN ?_ _ | refine blk_drew ?_ | refine blk_alloc ?_ _)); refine blk_far ?_ NB115_122.out _; (with_reducible repeat (first | refine blk_drewN ?_ _ | refine blk_drew ?_ | refine blk_alloc ?_ _)); refine blk_far ?_ NB115_122.out _; (with_reducible repeat (first | refine blk_drewN ?_ _ | refine blk_drew ?_ | refine blk_alloc ?_ _)); refine blk_far ?_ NB115_122.out _; (with_reducible repeat (first | refine blk_drewN ?_ _ | refine blk_drew ?_ | refine blk_alloc ?_ _)); exact BK115.out))⟩; have n1_ : Aside0 (w113.heap[gb122]? = some (.cells #[.int .i64 t116, .int .i64 t117, .int .i64 t118, .int .i64 t119, .int .i64 t120, .int .i64 t121, .bool true, .int .i64 (wrap64 (-(wrap64 ((wrap64 (60 * t125)) + t126))))] 23 (0, 0))) := ⟨(by rw [hw]; exact (by (with_reducible repeat (first | refine blk_drewN ?_ _ | refine blk_drew ?_ | refine blk_alloc ?_ _)); refine blk_put (cs := #[.int .i64 t116, .int .i64 t117, .int .i64 t118, .int .i64 t119, .int .i64 t120, .int .i64 t121, .bool true, .int .i64 (wrap64 ((wrap64 (60 * t125)) + t126))]) ?_ 7 _ rfl; (with_reducible repeat (first | refine blk_drewN ?_ _ | refine blk_drew ?_ | refine blk_alloc ?_ _)); refine blk_put (cs := #[.int .i64 t116, .int .i64 t117, .int .i64 t118, .int .i64 t119, .int .i64 t120, .int .i64 t121, .bool true, .int .i64 0]) ?_ 7 _ rfl; (with_reducible repeat (first | refine blk_drewN ?_ _ | refine blk_drew ?_ | refine blk_alloc ?_ _)); refine blk_put (cs := #[.int .i64 t116, .int .i64 t117, .int .i64 t118, .int .i64 t119, .int .i64 t120, .int .i64 t121, .bool false, .int .i64 0]) ?_ 6 _ rfl; (with_reducible repeat (first | refine blk_drewN ?_ _ | refine blk_drew ?_ | refine blk_alloc ?_ _)); exact BK122.out))⟩; have n2_ : Aside0 (Below w.heap.size w w113) := ⟨(by rw [hw]; exact (by repeat (first | (with_reducible first | exact HB.out | apply below_alloc | apply pw_below_drewN | apply below_drew1 | refine below_set ?_ GE115.out | refine below_set ?_ GE122.out) | exact HB.out)))⟩; clear hw; clear BK115; clear BK122; clear HB; have BK115 := n0_; have BK122 := n1_; have HB := n2_; clear n0_ n1_ n2_; have hcz114_0 : w113.cell? ⟨gb122, 0, none⟩ = some (.int .i64 t116) := (blk_cell BK122.out 0).trans rfl; have hcz114_1 : w113.cell? ⟨gb122, 1, none⟩ = some (.int .i64 t117) := (blk_cell BK122.out 1).trans rfl; have hcz114_2 : w113.cell? ⟨gb122, 2, none⟩ = some (.int .i64 t118) := (blk_cell BK122.out 2).trans rfl; have hcz114_3 : w113.cell? ⟨gb122, 3, none⟩ = some (.int .i64 t119) := (blk_cell BK122.out 3).trans rfl; have hcz114_4 : w113.cell? ⟨gb122, 4, none⟩ = some (.int .i64 t120) := (blk_cell BK122.out 4).trans rfl; have hcz114_5 : w113.cell? ⟨gb122, 5, none⟩ = some (.int .i64 t121) := (blk_cell BK122.out 5).trans rfl; have hcz114_6 : w113.cell? ⟨gb122, 6, none⟩ = some (.bool true) := (blk_cell BK122.out 6).trans rfl; have hcz114_7 : w113.cell? ⟨gb122, 7, none⟩ = some (.int .i64 (wrap64 (-(wrap64 ((wrap64 (60 * t125)) + t126))))) := (blk_cell BK122.out 7).trans rfl; have hfz114_0 := blk_frozen BK122.out 0; have hfz114_1 := blk_frozen BK122.out 1; have hfz114_2 := blk_frozen BK122.out 2; have hfz114_3 := blk_frozen BK122.out 3; have hfz114_4 := blk_frozen BK122.out 4; have hfz114_5 := blk_frozen BK122.out 5; have hfz114_6 := blk_frozen BK122.out 6; have hfz114_7 := blk_frozen BK122.out 7) | ((with_reducible refine gate_callee (f := 13) rfl ?_); refine goesL_ (some 106) rfl rfl Tryd.func13 (by kernel_rfl) rfl #[.agg #[.int .i64 t116, .int .i64 t117, .int .i64 t118, .int .i64 t119, .int .i64 t120, .int .i64 t121, .bool true, .int .i64 (wrap64 (-(wrap64 ((wrap64 (60 * t125)) + t126))))]] rfl (by (try simp only [List.map_toArray, List.map_cons, List.map_nil]); first | done | rfl | (simp only [List.length_drop, List.length_take]; rfl)) ?_; (with_reducible refine (spec_DateOk.calls kj70 t116 t117 t118 t119 t120 t121 true (wrap64 (-(wrap64 ((wrap64 (60 * t125)) + t126)))) false _ A101.out).mono ?_); rintro e w115 ⟨rfl, hb⟩; refine ⟨_, rfl, ?_⟩; have n0_ := Aside0.mk (blk_below (g := gb115) (o := .cells #[.int .i64 0, .int .i64 0, .int .i64 0, .int .i64 0, .int .i64 0, .int .i64 0, .bool false, .int .i64 0] 23 (0, 0)) (by (with_reducible repeat (first | refine blk_drewN ?_ _ | refine blk_drew ?_ | refine blk_alloc ?_ _)); exact BK115.out) hb); have n1_ := Aside0.mk (blk_below (g := gb122) (o := .cells #[.int .i64 t116, .int .i64 t117, .int .i64 t118, .int .i64 t119, .int .i64 t120, .int .i64 t121, .bool true, .int .i64 (wrap64 (-(wrap64 ((wrap64 (60 * t125)) + t126))))] 23 (0, 0)) (by (with_reducible repeat (first | refine blk_drewN ?_ _ | refine blk_drew ?_ | refine blk_alloc ?_ _)); exact BK122.out) hb); have n2_ := Aside0.mk (below_step (by repeat (first | (with_reducible first | exact HB.out | apply below_alloc | apply pw_below_drewN | apply below_drew1 | refine below_set ?_ GE115.out | refine below_set ?_ GE122.out) | exact HB.out)) hb); clear BK115; clear BK122; clear HB; have BK115 := n0_; have BK122 := n1_; have HB := n2_; clear n0_ n1_ n2_; (try clear hb); (try clear hb2); (try clear hk); (try clear hi); have hcz116_0 : w115.cell? ⟨gb115, 0, none⟩ = some (.int .i64 0) := (blk_cell BK115.out 0).trans rfl; have hcz116_1 : w115.cell? ⟨gb115, 1, none⟩ = some (.int .i64 0) := (blk_cell BK115.out 1).trans rfl; have hcz116_2 : w115.cell? ⟨gb115, 2, none⟩ = some (.int .i64 0) := (blk_cell BK115.out 2).trans rfl; have hcz116_3 : w115.cell? ⟨gb115, 3, none⟩ = some (.int .i64 0) := (blk_cell BK115.out 3).trans rfl; have hcz116_4 : w115.cell? ⟨gb115, 4, none⟩ = some (.int .i64 0) := (blk_cell BK115.out 4).trans rfl; have hcz116_5 : w115.cell? ⟨gb115, 5, none⟩ = some (.int .i64 0) := (blk_cell BK115.out 5).trans rfl; have hcz116_6 : w115.cell? ⟨gb115, 6, none⟩ = some (.bool false) := (blk_cell BK115.out 6).trans rfl; have hcz116_7 : w115.cell? ⟨gb115, 7, none⟩ = some (.int .i64 0) := (blk_cell BK115.out 7).trans rfl; have hfz116_0 := blk_frozen BK115.out 0; have hfz116_1 := blk_frozen BK115.out 1; have hfz116_2 := blk_frozen BK115.out 2; have hfz116_3 := blk_frozen BK115.out 3; have hfz116_4 := blk_frozen BK115.out 4; have hfz116_5 := blk_frozen BK115.out 5; have hfz116_6 := blk_frozen BK115.out 6; have hfz116_7 := blk_frozen BK115.out 7) | ((with_reducible refine gate_store (t := 23) (p := 2) rfl ?_); refine store_event (t := 23) (p := 2) (v := ?vo_w117) (w1 := ((((((((w115.setCell ⟨gb115, 0, none⟩ (.int .i64 0)).setCell ⟨gb115, 1, none⟩ (.int .i64 0)).setCell ⟨gb115, 2, none⟩ (.int .i64 0)).setCell ⟨gb115, 3, none⟩ (.int .i64 0)).setCell ⟨gb115, 4, none⟩ (.int .i64 0)).setCell ⟨gb115, 5, none⟩ (.int .i64 0)).setCell ⟨gb115, 6, none⟩ (.bool false)).setCell ⟨gb115, 7, none⟩ (.int .i64 0))) ?hg ?ho ?hn ?hr ?_; (case ho => rfl); (case hg => rfl); (case hn => rfl); (case hr => first | (go_simp; done) | (go_simp; rfl)); intro w117 hw; have n0_ : Aside0 (w117.heap[gb115]? = some (.cells #[.int .i64 0, .int .i64 0, .int .i64 0, .int .i64 0, .int .i64 0, .int .i64 0, .bool false, .int .i64 0] 23 (0, 0))) := ⟨(by rw [hw]; exact (by (with_reducible repeat (first | refine blk_drewN ?_ _ | refine blk_drew ?_ | refine blk_alloc ?_ _)); refine blk_put (cs := #[.int .i64 0, .int .i64 0, .int .i64 0, .int .i64 0, .int .i64 0, .int .i64 0, .bool false, .int .i64 0]) ?_ 7 _ rfl; (with_reducible repeat (first | refine blk_drewN ?_ _ | refine blk_drew ?_ | refine blk_alloc ?_ _)); refine blk_put (cs := #[.int .i64 0, .int .i64 0, .int .i64 0, .int .i64 0, .int .i64 0, .int .i64 0, .bool false, .int .i64 0]) ?_ 6 _ rfl; (with_reducible repeat (first | refine blk_drewN ?_ _ | refine blk_drew ?_ | refine blk_alloc ?_ _)); refine blk_put (cs := #[.int .i64 0, .int .i64 0, .int .i64 0, .int .i64 0, .int .i64 0, .int .i64 0, .bool false, .int .i64 0]) ?_ 5 _ rfl; (with_reducible repeat (first | refine blk_drewN ?_ _ | refine blk_drew ?_ | refine blk_alloc ?_ _)); refine blk_put (cs := #[.int .i64 0, .int .i64 0, .int .i64 0, .int .i64 0, .int .i64 0, .int .i64 0, .bool false, .int .i64 0]) ?_ 4 _ rfl; (with_reducible repeat (first | refine blk_drewN ?_ _ | refine blk_drew ?_ | refine blk_alloc ?_ _)); refine blk_put (cs := #[.int .i64 0, .int .i64 0, .int .i64 0, .int .i64 0, .int .i64 0, .int .i64 0, .bool false, .int .i64 0]) ?_ 3 _ rfl; (with_reducible repeat (first | refine blk_drewN ?_ _ | refine blk_drew ?_ | refine blk_alloc ?_ _)); refine blk_put (cs := #[.int .i64 0, .int .i64 0, .int .i64 0, .int .i64 0, .int .i64 0, .int .i64 0, .bool false, .int .i64 0]) ?_ 2 _ rfl; (with_reducible repeat (first | refine blk_drewN ?_ _ | refine blk_drew ?_ | refine blk_alloc ?_ _)); refine blk_put (cs := #[.int .i64 0, .int .i64 0, .int .i64 0, .int .i64 0, .int .i64 0, .int .i64 0, .bool false, .int .i64 0]) ?_ 1 _ rfl; (with_reducible repeat (first | refine blk_drewN ?_ _ | refine blk_drew ?_ | refine blk_alloc ?_ _)); refine blk_put (cs := #[.int .i64 0, .int .i64 0, .int .i64 0, .int .i64 0, .int .i64 0, .int .i64 0, .bool false, .int .i64 0]) ?_ 0 _ rfl; (with_reducible repeat (first | refine blk_drewN ?_ _ | refine blk_drew ?_ | refine blk_alloc ?_ _)); exact BK115.out))⟩; have n1_ : Aside0 (w117.heap[gb122]? = some (.cells #[.int .i64 t116, .int .i64 t117, .int .i64 t118, .int .i64 t119, .int .i64 t120, .int .i64 t121, .bool true, .int .i64 (wrap64 (-(wrap64 ((wrap64 (60 * t125)) + t126))))] 23 (0, 0))) := ⟨(by rw [hw]; exact (by (with_reducible repeat (first | refine blk_drewN ?_ _ | refine blk_drew ?_ | refine blk_alloc ?_ _)); refine blk_far ?_ NB122_115.out _; (with_reducible repeat (first | refine blk_drewN ?_ _ | refine blk_drew ?_ | refine blk_alloc ?_ _)); refine blk_far ?_ NB122_115.out _; (with_reducible repeat (first | refine blk_drewN ?_ _ | refine blk_drew ?_ | refine blk_alloc ?_ _)); refine blk_far ?_ NB122_115.out _; (with_reducible repeat (first | refine blk_drewN ?_ _ | refine blk_drew ?_ | refine blk_alloc ?_ _)); refine blk_far ?_ NB122_115.out _; (with_reducible repeat (first | refine blk_drewN ?_ _ | refine blk_drew ?_ | refine blk_alloc ?_ _)); refine blk_far ?_ NB122_115.out _; (with_reducible repeat (first | refine blk_drewN ?_ _ | refine blk_drew ?_ | refine blk_alloc ?_ _)); refine blk_far ?_ NB122_115.out _; (with_reducible repeat (first | refine blk_drewN ?_ _ | refine blk_drew ?_ | refine blk_alloc ?_ _)); refine blk_far ?_ NB122_115.out _; (with_reducible repeat (first | refine blk_drewN ?_ _ | refine blk_drew ?_ | refine blk_alloc ?_ _)); refine blk_far ?_ NB122_115.out _; (with_reducible repeat (first | refine blk_drewN ?_ _ | refine blk_drew ?_ | refine blk_alloc ?_ _)); exact BK122.out))⟩; have n2_ : Aside0 (Below w.heap.size w w117) := ⟨(by rw [hw]; exact (by repeat (first | (with_reducible first | exact HB.out | apply below_alloc | apply pw_below_drewN | apply below_drew1 | refine below_set ?_ GE115.out | refine below_set ?_ GE122.out) | exact HB.out)))⟩; clear hw; clear BK115; clear BK122; clear HB; have BK115 := n0_; have BK122 := n1_; have HB := n2_; clear n0_ n1_ n2_))
             refine bodyPost_ret (results_ct rfl _ _ gb115 23 #[.int .i64 0, .int .i64 0, .int .i64 0, .int .i64 0, .int .i64 0, .int .i64 0, .bool false, .int .i64 0] (0, 0) _ rfl (by (with_reducible repeat (first | refine blk_drewN ?_ _ | refine blk_drew ?_ | refine blk_alloc ?_ _)); exact BK115.out) Tryd.underlying23 rfl (by kernel_rfl)) rfl ?_
             exact ⟨by first | rfl | (simp only [show ∀ l_ : List UInt8, (l_ != []) = !l_.isEmpty from fun l_ => by cases l_ <;> rfl, show ∀ l_ : List UInt8, (l_ == []) = l_.isEmpty from fun l_ => by cases l_ <;> rfl]; rfl) | (simp [*] <;> rfl), by repeat (first | (with_reducible first | exact HB.out | apply below_alloc | apply pw_below_drewN | apply below_drew1 | refine below_set ?_ GE115.out | refine below_set ?_ GE122.out) | exact HB.out)⟩
           ·rw [if_neg c100] at H
            have c100b0 : ((bt zz 0) == 45) = false := beq_eq_false_iff_ne.mpr c100
            have c100b1 : ((bt zz 0) != 45) = true := bne_iff_ne.mpr c100
            replace H := Option.bind_eq_some_iff.mp H
            obtain ⟨t132, A1180, H⟩ := H
            replace H : (if t132 = true then (some (t116, t117, t118, t119, t120, t121, true, wrap64 ((wrap64 (60 * t125)) + t126), true)) else (some (0, 0, 0, 0, 0, 0, false, 0, false))) = some (r1, r2, r3, r4, r5, r6, r7, r8, r9) := H
            have A118 := Aside0.mk A1180
            clear A1180
            by_cases c119 : t132 = true
            ·subst c119
             have H1 : (some (t116, t117, t118, t119, t120, t121, true, wrap64 ((wrap64 (60 * t125)) + t126), true)) = some (r1, r2, r3, r4, r5, r6, r7, r8, r9) := by rw [if_pos rfl] at H; exact H
             clear H
             have H := H1
             clear H1
             simp only [Option.some.injEq, Prod.mk.injEq] at H
             obtain ⟨rfl, rfl, rfl, rfl, rfl, rfl, rfl, rfl, rfl⟩ := H
             have hnb120 := NB122_115.out
             have hnc120 := NB115_122.out
             have hcz121_0 : wc.cell? ⟨gb122, 0, none⟩ = some (.int .i64 t116) := (blk_cell BK122.out 0).trans rfl
             have hcz121_1 : wc.cell? ⟨gb122, 1, none⟩ = some (.int .i64 t117) := (blk_cell BK122.out 1).trans rfl
             have hcz121_2 : wc.cell? ⟨gb122, 2, none⟩ = some (.int .i64 t118) := (blk_cell BK122.out 2).trans rfl
             have hcz121_3 : wc.cell? ⟨gb122, 3, none⟩ = some (.int .i64 t119) := (blk_cell BK122.out 3).trans rfl
             have hcz121_4 : wc.cell? ⟨gb122, 4, none⟩ = some (.int .i64 t120) := (blk_cell BK122.out 4).trans rfl
             have hcz121_5 : wc.cell? ⟨gb122, 5, none⟩ = some (.int .i64 t121) := (blk_cell BK122.out 5).trans rfl
             have hcz121_6 : wc.cell? ⟨gb122, 6, none⟩ = some (.bool false) := (blk_cell BK122.out 6).trans rfl
             have hcz121_7 : wc.cell? ⟨gb122, 7, none⟩ = some (.int .i64 0) := (blk_cell BK122.out 7).trans rfl
             have hfz121_0 := blk_frozen BK122.out 0
             have hfz121_1 := blk_frozen BK122.out 1
             have hfz121_2 := blk_frozen BK122.out 2
             have hfz121_3 := blk_frozen BK122.out 3
             have hfz121_4 := blk_frozen BK122.out 4
             have hfz121_5 := blk_frozen BK122.out 5
             have hfz121_6 := blk_frozen BK122.out 6
             have hfz121_7 := blk_frozen BK122.out 7
             have p99 : 0 ≤ (0 : Int) := (by omega)
             have q99 : 0 < zz.size := (by have : (0 : Int) < (zz.size : Int) := of_decide_eq_true (by first | (with_reducible assumption) | assumption); omega)
             have hx99 : ∀ h : 0 < zz.size, ((zz[0]'h).toNat : Int) = bt zz 0 := bt_at zz 0
             clear p99
             have qi99 : (0 < (zz.size : Int)) = True := eq_true (of_decide_eq_true (by first | (with_reducible assumption) | assumption))
             replace q99 := eq_true q99
             go_wp2_with (first | ((with_reducible refine gate_callee (f := 13) rfl ?_); refine goesL_ (some 106) rfl rfl Tryd.func13 (by kernel_rfl) rfl #[.agg #[.int .i64 t116, .int .i64 t117, .int .i64 t118, .int .i64 t119, .int .i64 t120, .int .i64 t121, .bool true, .int .i64 (wrap64 ((wrap64 (60 * t125)) + t126))]] rfl (by (try simp only [List.map_toArray, List.map_cons, List.map_nil]); first | done | rfl | (simp only [List.length_drop, List.length_take]; rfl)) ?_; (with_reducible refine (spec_DateOk.calls kj70 t116 t117 t118 t119 t120 t121 true (wrap64 ((wrap64 (60 * t125)) + t126)) true _ A118.out).mono ?_); rintro e w122 ⟨rfl, hb⟩; refine ⟨_, rfl, ?_⟩; have n0_ := Aside0.mk (blk_below (g := gb115) (o := .cells #[.int .i64 0, .int .i64 0, .int .i64 0, .int .i64 0, .int .i64 0, .int .i64 0, .bool false, .int .i64 0] 23 (0, 0)) (by (with_reducible repeat (first | refine blk_drewN ?_ _ | refine blk_drew ?_ | refine blk_alloc ?_ _)); refine blk_far ?_ NB115_122.out _; (with_reducible repeat (first | refine blk_drewN ?_ _ | refine blk_drew ?_ | refine blk_alloc ?_ _)); refine blk_far ?_ NB115_122.out _; (with_reducible repeat (first | refine blk_drewN ?_ _ | refine blk_drew ?_ | refine blk_alloc ?_ _)); exact BK115.out) hb); have n1_ := Aside0.mk (blk_below (g := gb122) (o := .cells #[.int .i64 t116, .int .i64 t117, .int .i64 t118, .int .i64 t119, .int .i64 t120, .int .i64 t121, .bool true, .int .i64 (wrap64 ((wrap64 (60 * t125)) + t126))] 23 (0, 0)) (by (with_reducible repeat (first | refine blk_drewN ?_ _ | refine blk_drew ?_ | refine blk_alloc ?_ _)); refine blk_put (cs := #[.int .i64 t116, .int .i64 t117, .int .i64 t118, .int .i64 t119, .int .i64 t120, .int .i64 t121, .bool true, .int .i64 0]) ?_ 7 _ rfl; (with_reducible repeat (first | refine blk_drewN ?_ _ | refine blk_drew ?_ | refine blk_alloc ?_ _)); refine blk_put (cs := #[.int .i64 t116, .int .i64 t117, .int .i64 t118, .int .i64 t119, .int .i64 t120, .int .i64 t121, .bool false, .int .i64 0]) ?_ 6 _ rfl; (with_reducible repeat (first | refine blk_drewN ?_ _ | refine blk_drew ?_ | refine blk_alloc ?_ _)); exact BK122.out) hb); have n2_ := Aside0.mk (below_step (by repeat (first | (with_reducible first | exact HB.out | apply below_alloc | apply pw_below_drewN | apply below_drew1 | refine below_set ?_ GE115.out | refine below_set ?_ GE122.out) | exact HB.out)) hb); clear BK115; clear BK122; clear HB; have BK115 := n0_; have BK122 := n1_; have HB := n2_; clear n0_ n1_ n2_; (try clear hb); (try clear hb2); (try clear hk); (try clear hi); have hcz123_0 : w122.cell? ⟨gb122, 0, none⟩ = some (.int .i64 t116) := (blk_cell BK122.out 0).trans rfl; have hcz123_1 : w122.cell? ⟨gb122, 1, none⟩ = some (.int .i64 t117) := (blk_cell BK122.out 1).trans rfl; have hcz123_2 : w122.cell? ⟨gb122, 2, none⟩ = some (.int .i64 t118) := (blk_cell BK122.out 2).trans rfl; have hcz123_3 : w122.cell? ⟨gb122, 3, none⟩ = some (.int .i64 t119) := (blk_cell BK122.out 3).trans rfl; have hcz123_4 : w122.cell? ⟨gb122, 4, none⟩ = some (.int .i64 t120) := (blk_cell BK122.out 4).trans rfl; have hcz123_5 : w122.cell? ⟨gb122, 5, none⟩ = some (.int .i64 t121) := (blk_cell BK122.out 5).trans rfl; have hcz123_6 : w122.cell? ⟨gb122, 6, none⟩ = some (.bool true) := (blk_cell BK122.out 6).trans rfl; have hcz123_7 : w122.cell? ⟨gb122, 7, none⟩ = some (.int .i64 (wrap64 ((wrap64 (60 * t125)) + t126))) := (blk_cell BK122.out 7).trans rfl; have hfz123_0 := blk_frozen BK122.out 0; have hfz123_1 := blk_frozen BK122.out 1; have hfz123_2 := blk_frozen BK122.out 2; have hfz123_3 := blk_frozen BK122.out 3; have hfz123_4 := blk_frozen BK122.out 4; have hfz123_5 := blk_frozen BK122.out 5; have hfz123_6 := blk_frozen BK122.out 6; have hfz123_7 := blk_frozen BK122.out 7; have hcz124_0 : w122.cell? ⟨gb115, 0, none⟩ = some (.int .i64 0) := (blk_cell BK115.out 0).trans rfl; have hcz124_1 : w122.cell? ⟨gb115, 1, none⟩ = some (.int .i64 0) := (blk_cell BK115.out 1).trans rfl; have hcz124_2 : w122.cell? ⟨gb115, 2, none⟩ = some (.int .i64 0) := (blk_cell BK115.out 2).trans rfl; have hcz124_3 : w122.cell? ⟨gb115, 3, none⟩ = some (.int .i64 0) := (blk_cell BK115.out 3).trans rfl; have hcz124_4 : w122.cell? ⟨gb115, 4, none⟩ = some (.int .i64 0) := (blk_cell BK115.out 4).trans rfl; have hcz124_5 : w122.cell? ⟨gb115, 5, none⟩ = some (.int .i64 0) := (blk_cell BK115.out 5).trans rfl; have hcz124_6 : w122.cell? ⟨gb115, 6, none⟩ = some (.bool false) := (blk_cell BK115.out 6).trans rfl; have hcz124_7 : w122.cell? ⟨gb115, 7, none⟩ = some (.int .i64 0) := (blk_cell BK115.out 7).trans rfl; have hfz124_0 := blk_frozen BK115.out 0; have hfz124_1 := blk_frozen BK115.out 1; have hfz124_2 := blk_frozen BK115.out 2; have hfz124_3 := blk_frozen BK115.out 3; have hfz124_4 := blk_frozen BK115.out 4; have hfz124_5 := blk_frozen BK115.out 5; have hfz124_6 := blk_frozen BK115.out 6; have hfz124_7 := blk_frozen BK115.out 7) | ((with_reducible refine gate_store (t := 23) (p := 2) rfl ?_); refine store_event (t := 23) (p := 2) (v := ?vo_w125) (w1 := ((((((((w122.setCell ⟨gb115, 0, none⟩ (.int .i64 t116)).setCell ⟨gb115, 1, none⟩ (.int .i64 t117)).setCell ⟨gb115, 2, none⟩ (.int .i64 t118)).setCell ⟨gb115, 3, none⟩ (.int .i64 t119)).setCell ⟨gb115, 4, none⟩ (.int .i64 t120)).setCell ⟨gb115, 5, none⟩ (.int .i64 t121)).setCell ⟨gb115, 6, none⟩ (.bool true)).setCell ⟨gb115, 7, none⟩ (.int .i64 (wrap64 ((wrap64 (60 * t125)) + t126))))) ?hg ?ho ?hn ?hr ?_; (case ho => rfl); (case hg => rfl); (case hn => rfl); (case hr => first | (go_simp; done) | (go_simp; rfl)); intro w125 hw; have n0_ : Aside0 (w125.heap[gb115]? = some (.cells #[.int .i64 t116, .int .i64 t117, .int .i64 t118, .int .i64 t119, .int .i64 t120, .int .i64 t121, .bool true, .int .i64 (wrap64 ((wrap64 (60 * t125)) + t126))] 23 (0, 0))) := ⟨(by rw [hw]; exact (by (with_reducible repeat (first | refine blk_drewN ?_ _ | refine blk_drew ?_ | refine blk_alloc ?_ _)); refine blk_put (cs := #[.int .i64 t116, .int .i64 t117, .int .i64 t118, .int .i64 t119, .int .i64 t120, .int .i64 t121, .bool true, .int .i64 0]) ?_ 7 _ rfl; (with_reducible repeat (first | refine blk_drewN ?_ _ | refine blk_drew ?_ | refine blk_alloc ?_ _)); refine blk_put (cs := #[.int .i64 t116, .int .i64 t117, .int .i64 t118, .int .i64 t119, .int .i64 t120, .int .i64 t121, .bool false, .int .i64 0]) ?_ 6 _ rfl; (with_reducible repeat (first | refine blk_drewN ?_ _ | refine blk_drew ?_ | refine blk_alloc ?_ _)); refine blk_put (cs := #[.int .i64 t116, .int .i64 t117, .int .i64 t118, .int .i64 t119, .int .i64 t120, .int .i64 0, .bool false, .int .i64 0]) ?_ 5 _ rfl; (with_reducible repeat (first | refine blk_drewN ?_ _ | refine blk_drew ?_ | refine blk_alloc ?_ _)); refine blk_put (cs := #[.int .i64 t116, .int .i64 t117, .int .i64 t118, .int .i64 t119, .int .i64 0, .int .i64 0, .bool false, .int .i64 0]) ?_ 4 _ rfl; (with_reducible repeat (first | refine blk_drewN ?_ _ | refine blk_drew ?_ | refine blk_alloc ?_ _)); refine blk_put (cs := #[.int .i64 t116, .int .i64 t117, .int .i64 t118, .int .i64 0, .int .i64 0, .int .i64 0, .bool false, .int .i64 0]) ?_ 3 _ rfl; (with_reducible repeat (first | refine blk_drewN ?_ _ | refine blk_drew ?_ | refine blk_alloc ?_ _)); refine blk_put (cs := #[.int .i64 t116, .int .i64 t117, .int .i64 0, .int .i64 0, .int .i64 0, .int .i64 0, .bool false, .int .i64 0]) ?_ 2 _ rfl; (with_reducible repeat (first | refine blk_drewN ?_ _ | refine blk_drew ?_ | refine blk_alloc ?_ _)); refine blk_put (cs := #[.int .i64 t116, .int .i64 0, .int .i64 0, .int .i64 0, .int .i64 0, .int .i64 0, .bool false, .int .i64 0]) ?_ 1 _ rfl; (with_reducible repeat (first | refine blk_drewN ?_ _ | refine blk_drew ?_ | refine blk_alloc ?_ _)); refine blk_put (cs := #[.int .i64 0, .int .i64 0, .int .i64 0, .int .i64 0, .int .i64 0, .int .i64 0, .bool false, .int .i64 0]) ?_ 0 _ rfl; (with_reducible repeat (first | refine blk_drewN ?_ _ | refine blk_drew ?_ | refine blk_alloc ?_ _)); exact BK115.out))⟩; have n1_ : Aside0 (w125.heap[gb122]? = some (.cells #[.int .i64 t116, .int .i64 t117, .int .i64 t118, .int .i64 t119, .int .i64 t120, .int .i64 t121, .bool true, .int .i64 (wrap64 ((wrap64 (60 * t125)) + t126))] 23 (0, 0))) := ⟨(by rw [hw]; exact (by (with_reducible repeat (first | refine blk_drewN ?_ _ | refine blk_drew ?_ | refine blk_alloc ?_ _)); refine blk_far ?_ NB122_115.out _; (with_reducible repeat (first | refine blk_drewN ?_ _ | refine blk_drew ?_ | refine blk_alloc ?_ _)); refine blk_far ?_ NB122_115.out _; (with_reducible repeat (first | refine blk_drewN ?_ _ | refine blk_drew ?_ | refine blk_alloc ?_ _)); refine blk_far ?_ NB122_115.out _; (with_reducible repeat (first | refine blk_drewN ?_ _ | refine blk_drew ?_ | refine blk_alloc ?_ _)); refine blk_far ?_ NB122_115.out _; (with_reducible repeat (first | refine blk_drewN ?_ _ | refine blk_drew ?_ | refine blk_alloc ?_ _)); refine blk_far ?_ NB122_115.out _; (with_reducible repeat (first | refine blk_drewN ?_ _ | refine blk_drew ?_ | refine blk_alloc ?_ _)); refine blk_far ?_ NB122_115.out _; (with_reducible repeat (first | refine blk_drewN ?_ _ | refine blk_drew ?_ | refine blk_alloc ?_ _)); refine blk_far ?_ NB122_115.out _; (with_reducible repeat (first | refine blk_drewN ?_ _ | refine blk_drew ?_ | refine blk_alloc ?_ _)); refine blk_far ?_ NB122_115.out _; (with_reducible repeat (first | refine blk_drewN ?_ _ | refine blk_drew ?_ | refine blk_alloc ?_ _)); exact BK122.out))⟩; have n2_ : Aside0 (Below w.heap.size w w125) := ⟨(by rw [hw]; exact (by repeat (first | (with_reducible first | exact HB.out | apply below_alloc | apply pw_below_drewN | apply below_drew1 | refine below_set ?_ GE115.out | refine below_set ?_ GE122.out) | exact HB.out)))⟩; clear hw; clear BK115; clear BK122; clear HB; have BK115 := n0_; have BK122 := n1_; have HB := n2_; clear n0_ n1_ n2_))
             refine bodyPost_ret (results_ct rfl _ _ gb115 23 #[.int .i64 t116, .int .i64 t117, .int .i64 t118, .int .i64 t119, .int .i64 t120, .int .i64 t121, .bool true, .int .i64 (wrap64 ((wrap64 (60 * t125)) + t126))] (0, 0) _ rfl (by (with_reducible repeat (first | refine blk_drewN ?_ _ | refine blk_drew ?_ | refine blk_alloc ?_ _)); exact BK115.out) Tryd.underlying23 rfl (by kernel_rfl)) rfl ?_
             exact ⟨by first | rfl | (simp only [show ∀ l_ : List UInt8, (l_ != []) = !l_.isEmpty from fun l_ => by cases l_ <;> rfl, show ∀ l_ : List UInt8, (l_ == []) = l_.isEmpty from fun l_ => by cases l_ <;> rfl]; rfl) | (simp [*] <;> rfl), by repeat (first | (with_reducible first | exact HB.out | apply below_alloc | apply pw_below_drewN | apply below_drew1 | refine below_set ?_ GE115.out | refine below_set ?_ GE122.out) | exact HB.out)⟩
            ·replace c119 := Bool.eq_false_iff.mpr c119
             subst c119
             have H1 : (some (0, 0, 0, 0, 0, 0, false, 0, false)) = some (r1, r2, r3, r4, r5, r6, r7, r8, r9) := by rw [if_neg (show ¬ (false = true) by decide)] at H; exact H
             clear H
             have H := H1
             clear H1
             simp only [Option.some.injEq, Prod.mk.injEq] at H
             obtain ⟨rfl, rfl, rfl, rfl, rfl, rfl, rfl, rfl, rfl⟩ := H
             have hnb126 := NB122_115.out
             have hnc126 := NB115_122.out
             have hcz127_0 : wc.cell? ⟨gb122, 0, none⟩ = some (.int .i64 t116) := (blk_cell BK122.out 0).trans rfl
             have hcz127_1 : wc.cell? ⟨gb122, 1, none⟩ = some (.int .i64 t117) := (blk_cell BK122.out 1).trans rfl
             have hcz127_2 : wc.cell? ⟨gb122, 2, none⟩ = some (.int .i64 t118) := (blk_cell BK122.out 2).trans rfl
             have hcz127_3 : wc.cell? ⟨gb122, 3, none⟩ = some (.int .i64 t119) := (blk_cell BK122.out 3).trans rfl
             have hcz127_4 : wc.cell? ⟨gb122, 4, none⟩ = some (.int .i64 t120) := (blk_cell BK122.out 4).trans rfl
             have hcz127_5 : wc.cell? ⟨gb122, 5, none⟩ = some (.int .i64 t121) := (blk_cell BK122.out 5).trans rfl
             have hcz127_6 : wc.cell? ⟨gb122, 6, none⟩ = some (.bool false) := (blk_cell BK122.out 6).trans rfl
             have hcz127_7 : wc.cell? ⟨gb122, 7, none⟩ = some (.int .i64 0) := (blk_cell BK122.out 7).trans rfl
             have hfz127_0 := blk_frozen BK122.out 0
             have hfz127_1 := blk_frozen BK122.out 1
             have hfz127_2 := blk_frozen BK122.out 2
             have hfz127_3 := blk_frozen BK122.out 3
             have hfz127_4 := blk_frozen BK122.out 4
             have hfz127_5 := blk_frozen BK122.out 5
             have hfz127_6 := blk_frozen BK122.out 6
             have hfz127_7 := blk_frozen BK122.out 7
             have p99 : 0 ≤ (0 : Int) := (by omega)
             have q99 : 0 < zz.size := (by have : (0 : Int) < (zz.size : Int) := of_decide_eq_true (by first | (with_reducible assumption) | assumption); omega)
             have hx99 : ∀ h : 0 < zz.size, ((zz[0]'h).toNat : Int) = bt zz 0 := bt_at zz 0
             clear p99
             have qi99 : (0 < (zz.size : Int)) = True := eq_true (of_decide_eq_true (by first | (with_reducible assumption) | assumption))
             replace q99 := eq_true q99
             go_wp2_with (first | ((with_reducible refine gate_callee (f := 13) rfl ?_); refine goesL_ (some 106) rfl rfl Tryd.func13 (by kernel_rfl) rfl #[.agg #[.int .i64 t116, .int .i64 t117, .int .i64 t118, .int .i64 t119, .int .i64 t120, .int .i64 t121, .bool true, .int .i64 (wrap64 ((wrap64 (60 * t125)) + t126))]] rfl (by (try simp only [List.map_toArray, List.map_cons, List.map_nil]); first | done | rfl | (simp only [List.length_drop, List.length_take]; rfl)) ?_; (with_reducible refine (spec_DateOk.calls kj70 t116 t117 t118 t119 t120 t121 true (wrap64 ((wrap64 (60 * t125)) + t126)) false _ A118.out).mono ?_); rintro e w128 ⟨rfl, hb⟩; refine ⟨_, rfl, ?_⟩; have n0_ := Aside0.mk (blk_below (g := gb115) (o := .cells #[.int .i64 0, .int .i64 0, .int .i64 0, .int .i64 0, .int .i64 0, .int .i64 0, .bool false, .int .i64 0] 23 (0, 0)) (by (with_reducible repeat (first | refine blk_drewN ?_ _ | refine blk_drew ?_ | refine blk_alloc ?_ _)); refine blk_far ?_ NB115_122.out _; (with_reducible repeat (first | refine blk_drewN ?_ _ | refine blk_drew ?_ | refine blk_alloc ?_ _)); refine blk_far ?_ NB115_122.out _; (with_reducible repeat (first | refine blk_drewN ?_ _ | refine blk_drew ?_ | refine blk_alloc ?_ _)); exact BK115.out) hb); have n1_ := Aside0.mk (blk_below (g := gb122) (o := .cells #[.int .i64 t116, .int .i64 t117, .int .i64 t118, .int .i64 t119, .int .i64 t120, .int .i64 t121, .bool true, .int .i64 (wrap64 ((wrap64 (60 * t125)) + t126))] 23 (0, 0)) (by (with_reducible repeat (first | refine blk_drewN ?_ _ | refine blk_drew ?_ | refine blk_alloc ?_ _)); refine blk_put (cs := #[.int .i64 t116, .int .i64 t117, .int .i64 t118, .int .i64 t119, .int .i64 t120, .int .i64 t121, .bool true, .int .i64 0]) ?_ 7 _ rfl; (with_reducible repeat (first | refine blk_drewN ?_ _ | refine blk_drew ?_ | refine blk_alloc ?_ _)); refine blk_put (cs := #[.int .i64 t116, .int .i64 t117, .int .i64 t118, .int .i64 t119, .int .i64 t120, .int .i64 t121, .bool false, .int .i64 0]) ?_ 6 _ rfl; (with_reducible repeat (first | refine blk_drewN ?_ _ | refine blk_drew ?_ | refine blk_alloc ?_ _)); exact BK122.out) hb); have n2_ := Aside0.mk (below_step (by repeat (first | (with_reducible first | exact HB.out | apply below_alloc | apply pw_below_drewN | apply below_drew1 | refine below_set ?_ GE115.out | refine below_set ?_ GE122.out) | exact HB.out)) hb); clear BK115; clear BK122; clear HB; have BK115 := n0_; have BK122 := n1_; have HB := n2_; clear n0_ n1_ n2_; (try clear hb); (try clear hb2); (try clear hk); (try clear hi); have hcz129_0 : w128.cell? ⟨gb115, 0, none⟩ = some (.int .i64 0) := (blk_cell BK115.out 0).trans rfl; have hcz129_1 : w128.cell? ⟨gb115, 1, none⟩ = some (.int .i64 0) := (blk_cell BK115.out 1).trans rfl; have hcz129_2 : w128.cell? ⟨gb115, 2, none⟩ = some (.int .i64 0) := (blk_cell BK115.out 2).trans rfl; have hcz129_3 : w128.cell? ⟨gb115, 3, none⟩ = some (.int .i64 0) := (blk_cell BK115.out 3).trans rfl; have hcz129_4 : w128.cell? ⟨gb115, 4, none⟩ = some (.int .i64 0) := (blk_cell BK115.out 4).trans rfl; have hcz129_5 : w128.cell? ⟨gb115, 5, none⟩ = some (.int .i64 0) := (blk_cell BK115.out 5).trans rfl; have hcz129_6 : w128.cell? ⟨gb115, 6, none⟩ = some (.bool false) := (blk_cell BK115.out 6).trans rfl; have hcz129_7 : w128.cell? ⟨gb115, 7, none⟩ = some (.int .i64 0) := (blk_cell BK115.out 7).trans rfl; have hfz129_0 := blk_frozen BK115.out 0; have hfz129_1 := blk_frozen BK115.out 1; have hfz129_2 := blk_frozen BK115.out 2; have hfz129_3 := blk_frozen BK115.out 3; have hfz129_4 := blk_frozen BK115.out 4; have hfz129_5 := blk_frozen BK115.out 5; have hfz129_6 := blk_frozen BK115.out 6; have hfz129_7 := blk_frozen BK115.out 7) | ((with_reducible refine gate_store (t := 23) (p := 2) rfl ?_); refine store_event (t := 23) (p := 2) (v := ?vo_w130) (w1 := ((((((((w128.setCell ⟨gb115, 0, none⟩ (.int .i64 0)).setCell ⟨gb115, 1, none⟩ (.int .i64 0)).setCell ⟨gb115, 2, none⟩ (.int .i64 0)).setCell ⟨gb115, 3, none⟩ (.int .i64 0)).setCell ⟨gb115, 4, none⟩ (.int .i64 0)).setCell ⟨gb115, 5, none⟩ (.int .i64 0)).setCell ⟨gb115, 6, none⟩ (.bool false)).setCell ⟨gb115, 7, none⟩ (.int .i64 0))) ?hg ?ho ?hn ?hr ?_; (case ho => rfl); (case hg => rfl); (case hn => rfl); (case hr => first | (go_simp; done) | (go_simp; rfl)); intro w130 hw; have n0_ : Aside0 (w130.heap[gb115]? = some (.cells #[.int .i64 0, .int .i64 0, .int .i64 0, .int .i64 0, .int .i64 0, .int .i64 0, .bool false, .int .i64 0] 23 (0, 0))) := ⟨(by rw [hw]; exact (by (with_reducible repeat (first | refine blk_drewN ?_ _ | refine blk_drew ?_ | refine blk_alloc ?_ _)); refine blk_put (cs := #[.int .i64 0, .int .i64 0, .int .i64 0, .int .i64 0, .int .i64 0, .int .i64 0, .bool false, .int .i64 0]) ?_ 7 _ rfl; (with_reducible repeat (first | refine blk_drewN ?_ _ | refine blk_drew ?_ | refine blk_alloc ?_ _)); refine blk_put (cs := #[.int .i64 0, .int .i64 0, .int .i64 0, .int .i64 0, .int .i64 0, .int .i64 0, .bool false, .int .i64 0]) ?_ 6 _ rfl; (with_reducible repeat (first | refine blk_drewN ?_ _ | refine blk_drew ?_ | refine blk_alloc ?_ _)); refine blk_put (cs := #[.int .i64 0, .int .i64 0, .int .i64 0, .int .i64 0, .int .i64 0, .int .i64 0, .bool false, .int .i64 0]) ?_ 5 _ rfl; (with_reducible repeat (first | refine blk_drewN ?_ _ | refine blk_drew ?_ | refine blk_alloc ?_ _)); refine blk_put (cs := #[.int .i64 0, .int .i64 0, .int .i64 0, .int .i64 0, .int .i64 0, .int .i64 0, .bool false, .int .i64 0]) ?_ 4 _ rfl; (with_reducible repeat (first | refine blk_drewN ?_ _ | refine blk_drew ?_ | refine blk_alloc ?_ _)); refine blk_put (cs := #[.int .i64 0, .int .i64 0, .int .i64 0, .int .i64 0, .int .i64 0, .int .i64 0, .bool false, .int .i64 0]) ?_ 3 _ rfl; (with_reducible repeat (first | refine blk_drewN ?_ _ | refine blk_drew ?_ | refine blk_alloc ?_ _)); refine blk_put (cs := #[.int .i64 0, .int .i64 0, .int .i64 0, .int .i64 0, .int .i64 0, .int .i64 0, .bool false, .int .i64 0]) ?_ 2 _ rfl; (with_reducible repeat (first | refine blk_drewN ?_ _ | refine blk_drew ?_ | refine blk_alloc ?_ _)); refine blk_put (cs := #[.int .i64 0, .int .i64 0, .int .i64 0, .int .i64 0, .int .i64 0, .int .i64 0, .bool false, .int .i64 0]) ?_ 1 _ rfl; (with_reducible repeat (first | refine blk_drewN ?_ _ | refine blk_drew ?_ | refine blk_alloc ?_ _)); refine blk_put (cs := #[.int .i64 0, .int .i64 0, .int .i64 0, .int .i64 0, .int .i64 0, .int .i64 0, .bool false, .int .i64 0]) ?_ 0 _ rfl; (with_reducible repeat (first | refine blk_drewN ?_ _ | refine blk_drew ?_ | refine blk_alloc ?_ _)); exact BK115.out))⟩; have n1_ : Aside0 (w130.heap[gb122]? = some (.cells #[.int .i64 t116, .int .i64 t117, .int .i64 t118, .int .i64 t119, .int .i64 t120, .int .i64 t121, .bool true, .int .i64 (wrap64 ((wrap64 (60 * t125)) + t126))] 23 (0, 0))) := ⟨(by rw [hw]; exact (by (with_reducible repeat (first | refine blk_drewN ?_ _ | refine blk_drew ?_ | refine blk_alloc ?_ _)); refine blk_far ?_ NB122_115.out _; (with_reducible repeat (first | refine blk_drewN ?_ _ | refine blk_drew ?_ | refine blk_alloc ?_ _)); refine blk_far ?_ NB122_115.out _; (with_reducible repeat (first | refine blk_drewN ?_ _ | refine blk_drew ?_ | refine blk_alloc ?_ _)); refine blk_far ?_ NB122_115.out _; (with_reducible repeat (first | refine blk_drewN ?_ _ | refine blk_drew ?_ | refine blk_alloc ?_ _)); refine blk_far ?_ NB122_115.out _; (with_reducible repeat (first | refine blk_drewN ?_ _ | refine blk_drew ?_ | refine blk_alloc ?_ _)); refine blk_far ?_ NB122_115.out _; (with_reducible repeat (first | refine blk_drewN ?_ _ | refine blk_drew ?_ | refine blk_alloc ?_ _)); refine blk_far ?_ NB122_115.out _; (with_reducible repeat (first | refine blk_drewN ?_ _ | refine blk_drew ?_ | refine blk_alloc ?_ _)); refine blk_far ?_ NB122_115.out _; (with_reducible repeat (first | refine blk_drewN ?_ _ | refine blk_drew ?_ | refine blk_alloc ?_ _)); refine blk_far ?_ NB122_115.out _; (with_reducible repeat (first | refine blk_drewN ?_ _ | refine blk_drew ?_ | refine blk_alloc ?_ _)); exact BK122.out))⟩; have n2_ : Aside0 (Below w.heap.size w w130) := ⟨(by rw [hw]; exact (by repeat (first | (with_reducible first | exact HB.out | apply below_alloc | apply pw_below_drewN | apply below_drew1 | refine below_set ?_ GE115.out | refine below_set ?_ GE122.out) | exact HB.out)))⟩; clear hw; clear BK115; clear BK122; clear HB; have BK115 := n0_; have BK122 := n1_; have HB := n2_; clear n0_ n1_ n2_))
             refine bodyPost_ret (results_ct rfl _ _ gb115 23 #[.int .i64 0, .int .i64 0, .int .i64 0, .int .i64 0, .int .i64 0, .int .i64 0, .bool false, .int .i64 0] (0, 0) _ rfl (by (with_reducible repeat (first | refine blk_drewN ?_ _ | refine blk_drew ?_ | refine blk_alloc ?_ _)); exact BK115.out) Tryd.underlying23 rfl (by kernel_rfl)) rfl ?_
             exact ⟨by first | rfl | (simp only [show ∀ l_ : List UInt8, (l_ != []) = !l_.isEmpty from fun l_ => by cases l_ <;> rfl, show ∀ l_ : List UInt8, (l_ == []) = l_.isEmpty from fun l_ => by cases l_ <;> rfl]; rfl) | (simp [*] <;> rfl), by repeat (first | (with_reducible first | exact HB.out | apply below_alloc | apply pw_below_drewN | apply below_drew1 | refine below_set ?_ GE115.out | refine below_set ?_ GE122.out) | exact HB.out)⟩
          ·rw [if_neg c98] at H
           exact absurd H (by simp)
    ·rw [if_neg c28] at H
     exact absurd H (by simp)

end Go.Proofs.YtdfopjmokbcnlaaDoor.PR
