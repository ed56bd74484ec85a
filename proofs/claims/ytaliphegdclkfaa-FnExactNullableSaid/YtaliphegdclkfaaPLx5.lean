-- Printed by this session's pdrive.py over the kit's printer.
import Derived.Test.YtaliphegdclkfaaPLx0
import Derived.Test.YtaliphegdclkfaaPLx4
namespace Go.Proofs.Ytaliphegdclkfaa.PL
open Go.RowKit Go.Proofs.YtaliphegdclkfaaW.PrintWords Go.Proofs.YtaliphegdclkfaaW.PrintLast Go.Proofs.YtaliphegdclkfaaW.PrintMore Go.Proofs.YtaliphegdclkfaaW.WordsB
attribute [local go_sem] max2_int min2_int max_two min_two max_three min_three max_four min_four   -- for this text's walks alone
set_option linter.unusedVariables false
set_option linter.unusedSimpArgs false

/-! ### spec_l8Null: function 39 -/
mutual
def spec_l8Null.j0 : Nat → List (S44) → Bool → Int → ByteArray → List Int → Int → Option (Bool)
 | 0, _, _, _, _, _, _ => none
 | k + 1, x0, x19, x159000, x159001, x159002, x159003 => if x19 = true then (some true) else (if x159000 = 2 then (spec_l8Null.l0 k x0 0 x159000 x159001 x159002 x159003) else (if x159000 = 3 then (spec_l8Null.l1 k x0 0 x159000 x159001 x159002 x159003) else (some false)))
def spec_l8Null.l0 : Nat → List (S44) → Int → Int → ByteArray → List Int → Int → Option (Bool)
 | 0, _, _, _, _, _, _ => none
 | k + 1, x0, x6, x159000, x159001, x159002, x159003 => if x6 < (x159002.length : Int) then (if 0 ≤ x6 then ((spec_l8Null.f k x0 (rd x159002 x6)).bind fun t160 => (if t160 = true then (spec_l8Null.l0 k x0 (wrap64 (x6 + 1)) x159000 x159001 x159002 x159003) else (some false))) else (none)) else (some true)
def spec_l8Null.l1 : Nat → List (S44) → Int → Int → ByteArray → List Int → Int → Option (Bool)
 | 0, _, _, _, _, _, _ => none
 | k + 1, x0, x7, x159000, x159001, x159002, x159003 => if x7 < (x159002.length : Int) then (if 0 ≤ x7 then ((spec_l8Null.f k x0 (rd x159002 x7)).bind fun t162 => (if t162 = true then (some true) else (spec_l8Null.l1 k x0 (wrap64 (x7 + 1)) x159000 x159001 x159002 x159003))) else (none)) else (some false)
def spec_l8Null.f : Nat → List (S44) → Int → Option (Bool)
 | 0, _, _ => none
 | k + 1, l0, a1 => if 0 ≤ a1 then (if a1 < (l0.length : Int) then (if ((rd_T44 l0 a1).f3) = 1 then (spec_l8Null.j0 k l0 true ((rd_T44 l0 a1).f0) ((rd_T44 l0 a1).f1) ((rd_T44 l0 a1).f2) ((rd_T44 l0 a1).f3)) else (spec_l8Null.j0 k l0 (((rd_T44 l0 a1).f3) == 2) ((rd_T44 l0 a1).f0) ((rd_T44 l0 a1).f1) ((rd_T44 l0 a1).f2) ((rd_T44 l0 a1).f3))) else (none)) else (none)
end
theorem spec_l8Null.mono_l : ∀ k, (∀ y0 y1, LeO (spec_l8Null.f k y0 y1) (spec_l8Null.f (k + 1) y0 y1)) ∧ (∀ y0 y1 y2 y3 y4 y5, LeO (spec_l8Null.j0 k y0 y1 y2 y3 y4 y5) (spec_l8Null.j0 (k + 1) y0 y1 y2 y3 y4 y5)) ∧ (∀ y0 y1 y2 y3 y4 y5, LeO (spec_l8Null.l0 k y0 y1 y2 y3 y4 y5) (spec_l8Null.l0 (k + 1) y0 y1 y2 y3 y4 y5)) ∧ (∀ y0 y1 y2 y3 y4 y5, LeO (spec_l8Null.l1 k y0 y1 y2 y3 y4 y5) (spec_l8Null.l1 (k + 1) y0 y1 y2 y3 y4 y5))
 | 0 => ⟨fun _ _ r h => by simp [spec_l8Null.f] at h, fun _ _ _ _ _ _ r h => by simp [spec_l8Null.j0] at h, fun _ _ _ _ _ _ r h => by simp [spec_l8Null.l0] at h, fun _ _ _ _ _ _ r h => by simp [spec_l8Null.l1] at h⟩
 | k + 1 => by
  obtain ⟨ih0, ih1, ih2, ih3⟩ := spec_l8Null.mono_l k
  refine ⟨?_, ?_, ?_, ?_⟩
  ·intro y0 y1
   unfold spec_l8Null.f
   repeat' first
   | (with_reducible exact ih0 _ _)
   | (with_reducible exact ih1 _ _ _ _ _ _)
   | (with_reducible exact ih2 _ _ _ _ _ _)
   | (with_reducible exact ih3 _ _ _ _ _ _)
   | (with_reducible exact LeO.refl _)
   | (with_reducible exact LeO.none _)
   | (with_reducible refine LeO.ite ?_ ?_)
   | (with_reducible refine LeO.bind ?_ (fun _ => ?_))
   | exact ih0 _ _
   | exact ih1 _ _ _ _ _ _
   | exact ih2 _ _ _ _ _ _
   | exact ih3 _ _ _ _ _ _
   | exact LeO.none _
   | refine LeO.ite ?_ ?_
   | refine LeO.bind ?_ (fun _ => ?_)
  ·intro y0 y1 y2 y3 y4 y5
   unfold spec_l8Null.j0
   repeat' first
   | (with_reducible exact ih0 _ _)
   | (with_reducible exact ih1 _ _ _ _ _ _)
   | (with_reducible exact ih2 _ _ _ _ _ _)
   | (with_reducible exact ih3 _ _ _ _ _ _)
   | (with_reducible exact LeO.refl _)
   | (with_reducible exact LeO.none _)
   | (with_reducible refine LeO.ite ?_ ?_)
   | (with_reducible refine LeO.bind ?_ (fun _ => ?_))
   | exact ih0 _ _
   | exact ih1 _ _ _ _ _ _
   | exact ih2 _ _ _ _ _ _
   | exact ih3 _ _ _ _ _ _
   | exact LeO.none _
   | refine LeO.ite ?_ ?_
   | refine LeO.bind ?_ (fun _ => ?_)
  ·intro y0 y1 y2 y3 y4 y5
   unfold spec_l8Null.l0
   repeat' first
   | (with_reducible exact ih0 _ _)
   | (with_reducible exact ih1 _ _ _ _ _ _)
   | (with_reducible exact ih2 _ _ _ _ _ _)
   | (with_reducible exact ih3 _ _ _ _ _ _)
   | (with_reducible exact LeO.refl _)
   | (with_reducible exact LeO.none _)
   | (with_reducible refine LeO.ite ?_ ?_)
   | (with_reducible refine LeO.bind ?_ (fun _ => ?_))
   | exact ih0 _ _
   | exact ih1 _ _ _ _ _ _
   | exact ih2 _ _ _ _ _ _
   | exact ih3 _ _ _ _ _ _
   | exact LeO.none _
   | refine LeO.ite ?_ ?_
   | refine LeO.bind ?_ (fun _ => ?_)
  ·intro y0 y1 y2 y3 y4 y5
   unfold spec_l8Null.l1
   repeat' first
   | (with_reducible exact ih0 _ _)
   | (with_reducible exact ih1 _ _ _ _ _ _)
   | (with_reducible exact ih2 _ _ _ _ _ _)
   | (with_reducible exact ih3 _ _ _ _ _ _)
   | (with_reducible exact LeO.refl _)
   | (with_reducible exact LeO.none _)
   | (with_reducible refine LeO.ite ?_ ?_)
   | (with_reducible refine LeO.bind ?_ (fun _ => ?_))
   | exact ih0 _ _
   | exact ih1 _ _ _ _ _ _
   | exact ih2 _ _ _ _ _ _
   | exact ih3 _ _ _ _ _ _
   | exact LeO.none _
   | refine LeO.ite ?_ ?_
   | refine LeO.bind ?_ (fun _ => ?_)
theorem spec_l8Null.mono : ∀ a0 a1 k, LeO (spec_l8Null.f k a0 a1) (spec_l8Null.f (k + 1) a0 a1) := by
 intro a0 a1 k
 obtain ⟨ih0, ih1, ih2, ih3⟩ := spec_l8Null.mono_l k
 exact ih0 a0 a1
set_option maxHeartbeats 8000000 in
set_option maxRecDepth 100000 in
theorem spec_l8Null.calls (k : Nat) : ∀ (A0 : Option Addr) (c0 : Nat) (l0 : List (S44)) (a1 : Int) (r : Bool) (w : World) (hr0 : Kd.C k44 w A0 l0.length l0) (hc0 : l0.length ≤ c0) (h : spec_l8Null.f k l0 a1 = some r),
  Calls Try.prog 39 #[.slice A0 l0.length c0, .int .i64 a1] w fun e w' => e = .returned (.bool r) ∧ Below w.heap.size w w' := by
 induction k using Nat.strongRecOn with
 | _ k ih =>
 intro A0 c0 l0 a1 r w hr0 hc0 h
 cases k with
 | zero => exact absurd h (by simp [spec_l8Null.f])
 | succ k =>
 simp only [spec_l8Null.f] at h
 have hu44 := Try.underlying44
 have HR0 := Aside0.mk hr0
 have HC0 := Aside0.mk hc0
 clear hr0 hc0
 have HB := Aside0.mk (Below.refl w.heap.size w)
 have H : (if 0 ≤ a1 then (if a1 < (l0.length : Int) then (if ((rd_T44 l0 a1).f3) = 1 then (spec_l8Null.j0 k l0 true ((rd_T44 l0 a1).f0) ((rd_T44 l0 a1).f1) ((rd_T44 l0 a1).f2) ((rd_T44 l0 a1).f3)) else (spec_l8Null.j0 k l0 (((rd_T44 l0 a1).f3) == 2) ((rd_T44 l0 a1).f0) ((rd_T44 l0 a1).f1) ((rd_T44 l0 a1).f2) ((rd_T44 l0 a1).f3))) else (none)) else (none)) = some r := h
 clear h
 by_cases c3 : 0 ≤ a1
 ·rw [if_pos c3] at H
  have c3b0 : decide (0 ≤ a1) = true := decide_eq_true c3
  clear c3
  by_cases c4 : a1 < (l0.length : Int)
  ·rw [if_pos c4] at H
   have c4b0 : decide (a1 < (l0.length : Int)) = true := decide_eq_true c4
   clear c4
   have HC5 := Aside0.mk H
   clear H
   have p157 : 0 ≤ (a1 : Int) := of_decide_eq_true (by first | (with_reducible assumption) | assumption)
   have q157 : a1 < (l0.length : Int) := of_decide_eq_true (by first | (with_reducible assumption) | assumption)
   obtain ⟨ad157, A157_2, c157_2, e157, hx157_0, hx157_1, hx157_2, hx157_3, hl157_2, hi157_2⟩ := at_T44 HR0.out a1 p157 q157
   cases e157
   have HR157_2 := Aside0.mk hi157_2
   have HC157_2 := Aside0.mk hl157_2
   clear hi157_2 hl157_2
   replace p157 := eq_true p157
   replace q157 := eq_true q157
   go_enter Try.func39, Try.ntmps39
   go_upto_region 2 with (first | ((with_reducible refine gate_dst (N := 5) rfl ?_); refine box_event ?hg (N := 5) ?hd (cs := #[.int .i64 0, .string (⟨#[]⟩ : ByteArray), .slice none 0 0, .int .i64 0]) (t := 44) ?hr ?_; (case hd => rfl); (case hg => rfl); (case hr => first | (go_simp; done) | (go_simp; rfl)); intro gb158 hg w6 hbox hb; have n0_ := Aside0.mk (below_step (by repeat (first | (with_reducible first | exact HB.out | apply below_alloc | apply pw_below_drewN | apply below_drew1) | exact HB.out)) hb); have n1_ := Aside0.mk (hbox); have n2_ := Aside0.mk ((by rw [hg]; exact (below_size (by repeat (first | (with_reducible first | exact HB.out | apply below_alloc | apply pw_below_drewN | apply below_drew1) | exact HB.out))) : w.heap.size ≤ gb158)); have n3_ := Aside0.mk ((by rw [hg]; exact (below_size (by repeat (first | (with_reducible first | exact HB.out | apply below_alloc | apply pw_below_drewN | apply below_drew1) | exact HB.out))) : w.heap.size ≤ gb158)); clear HB; have HB := n0_; have BK158 := n1_; have GW158 := n2_; have GE158 := n3_; clear n0_ n1_ n2_ n3_; clear hb hbox hg; have hcz7_0 : w6.cell? ⟨gb158, 0, none⟩ = some (.int .i64 0) := (blk_cell BK158.out 0).trans rfl; have hcz7_1 : w6.cell? ⟨gb158, 1, none⟩ = some (.string (⟨#[]⟩ : ByteArray)) := (blk_cell BK158.out 1).trans rfl; have hcz7_2 : w6.cell? ⟨gb158, 2, none⟩ = some (.slice none 0 0) := (blk_cell BK158.out 2).trans rfl; have hcz7_3 : w6.cell? ⟨gb158, 3, none⟩ = some (.int .i64 0) := (blk_cell BK158.out 3).trans rfl; have hfz7_0 := blk_frozen BK158.out 0; have hfz7_1 := blk_frozen BK158.out 1; have hfz7_2 := blk_frozen BK158.out 2; have hfz7_3 := blk_frozen BK158.out 3) | ((with_reducible refine gate_store (t := 44) (p := 5) rfl ?_); refine store_event (t := 44) (p := 5) (v := ?vo_w8) (w1 := ((((w6.setCell ⟨gb158, 0, none⟩ (.int .i64 ((rd_T44 l0 a1).f0))).setCell ⟨gb158, 1, none⟩ (.string ((rd_T44 l0 a1).f1))).setCell ⟨gb158, 2, none⟩ (.slice A157_2 ((rd_T44 l0 a1).f2).length c157_2)).setCell ⟨gb158, 3, none⟩ (.int .i64 ((rd_T44 l0 a1).f3)))) ?hg ?ho ?hn ?hr ?_; (case ho => rfl); (case hg => rfl); (case hn => rfl); (case hr => first | (go_simp; done) | (go_simp; rfl)); intro w8 hw; have n0_ : Aside0 (w8.heap[gb158]? = some (.cells #[.int .i64 ((rd_T44 l0 a1).f0), .string ((rd_T44 l0 a1).f1), .slice A157_2 ((rd_T44 l0 a1).f2).length c157_2, .int .i64 ((rd_T44 l0 a1).f3)] 44 (0, 0))) := ⟨(by rw [hw]; exact (by (with_reducible repeat (first | refine blk_drewN ?_ _ | refine blk_drew ?_ | refine blk_alloc ?_ _)); refine blk_put (cs := #[.int .i64 ((rd_T44 l0 a1).f0), .string ((rd_T44 l0 a1).f1), .slice A157_2 ((rd_T44 l0 a1).f2).length c157_2, .int .i64 0]) ?_ 3 _ rfl; (with_reducible repeat (first | refine blk_drewN ?_ _ | refine blk_drew ?_ | refine blk_alloc ?_ _)); refine blk_put (cs := #[.int .i64 ((rd_T44 l0 a1).f0), .string ((rd_T44 l0 a1).f1), .slice none 0 0, .int .i64 0]) ?_ 2 _ rfl; (with_reducible repeat (first | refine blk_drewN ?_ _ | refine blk_drew ?_ | refine blk_alloc ?_ _)); refine blk_put (cs := #[.int .i64 ((rd_T44 l0 a1).f0), .string (⟨#[]⟩ : ByteArray), .slice none 0 0, .int .i64 0]) ?_ 1 _ rfl; (with_reducible repeat (first | refine blk_drewN ?_ _ | refine blk_drew ?_ | refine blk_alloc ?_ _)); refine blk_put (cs := #[.int .i64 0, .string (⟨#[]⟩ : ByteArray), .slice none 0 0, .int .i64 0]) ?_ 0 _ rfl; (with_reducible repeat (first | refine blk_drewN ?_ _ | refine blk_drew ?_ | refine blk_alloc ?_ _)); exact BK158.out))⟩; have n1_ : Aside0 (Below w.heap.size w w8) := ⟨(by rw [hw]; exact (by repeat (first | (with_reducible first | exact HB.out | apply below_alloc | apply pw_below_drewN | apply below_drew1 | refine below_set ?_ GE158.out) | exact HB.out)))⟩; clear hw; clear BK158; clear HB; have BK158 := n0_; have HB := n1_; clear n0_ n1_))
   (try simp only [Act.put, List.setIfInBounds_toArray, List.set_cons_zero, List.set_cons_succ])
   go_cut [19] (fun v19 wc => ∃ (kq : Nat) (x19_4 : Bool), v19 = .bool x19_4 ∧ Aside0 (spec_l8Null.j0 kq l0 x19_4 ((rd_T44 l0 a1).f0) ((rd_T44 l0 a1).f1) ((rd_T44 l0 a1).f2) ((rd_T44 l0 a1).f3) = some r) ∧ Aside0 (kq ≤ k) ∧ Aside0 (wc.heap[gb158]? = some (.cells #[.int .i64 ((rd_T44 l0 a1).f0), .string ((rd_T44 l0 a1).f1), (.slice A157_2 ((rd_T44 l0 a1).f2).length c157_2), .int .i64 ((rd_T44 l0 a1).f3)] 44 (0, 0))) ∧ Aside0 (Below w.heap.size w wc))
   case first =>
    have H := HC5.out
    clear HC5
    by_cases c9 : ((rd_T44 l0 a1).f3) = 1
    ·rw [if_pos c9] at H
     have c9b0 : (((rd_T44 l0 a1).f3) == 1) = true := beq_iff_eq.mpr c9
     have c9b1 : (((rd_T44 l0 a1).f3) != 1) = false := bne_eq_false_iff_eq.mpr c9
     clear c9
     (first | rw [c9b0] | (simp only [i64_w, i32_w]; rw [c9b0]) | skip)
     have H' := Aside0.mk H
     clear H
     have hcz10_0 : w8.cell? ⟨gb158, 0, none⟩ = some (.int .i64 ((rd_T44 l0 a1).f0)) := (blk_cell BK158.out 0).trans rfl
     have hcz10_1 : w8.cell? ⟨gb158, 1, none⟩ = some (.string ((rd_T44 l0 a1).f1)) := (blk_cell BK158.out 1).trans rfl
     have hcz10_2 : w8.cell? ⟨gb158, 2, none⟩ = some (.slice A157_2 ((rd_T44 l0 a1).f2).length c157_2) := (blk_cell BK158.out 2).trans rfl
     have hcz10_3 : w8.cell? ⟨gb158, 3, none⟩ = some (.int .i64 ((rd_T44 l0 a1).f3)) := (blk_cell BK158.out 3).trans rfl
     have hfz10_0 := blk_frozen BK158.out 0
     have hfz10_1 := blk_frozen BK158.out 1
     have hfz10_2 := blk_frozen BK158.out 2
     have hfz10_3 := blk_frozen BK158.out 3
     go_wp2
     go_meet
     case rel => exact ⟨_, (true), (by first | rfl | (simp; done) | (simp [*]; done)), H', ⟨by first | omega | exact Nat.le_refl _⟩, ⟨by (with_reducible repeat (first | refine blk_drewN ?_ _ | refine blk_drew ?_ | refine blk_alloc ?_ _)); exact BK158.out⟩, ⟨by repeat (first | (with_reducible first | exact HB.out | apply below_alloc | apply pw_below_drewN | apply below_drew1 | refine below_set ?_ GE158.out) | exact HB.out)⟩⟩
    ·rw [if_neg c9] at H
     have c9b0 : (((rd_T44 l0 a1).f3) == 1) = false := beq_eq_false_iff_ne.mpr c9
     have c9b1 : (((rd_T44 l0 a1).f3) != 1) = true := bne_iff_ne.mpr c9
     (first | rw [c9b0] | (simp only [i64_w, i32_w]; rw [c9b0]) | skip)
     have H' := Aside0.mk H
     clear H
     have hcz11_0 : w8.cell? ⟨gb158, 0, none⟩ = some (.int .i64 ((rd_T44 l0 a1).f0)) := (blk_cell BK158.out 0).trans rfl
     have hcz11_1 : w8.cell? ⟨gb158, 1, none⟩ = some (.string ((rd_T44 l0 a1).f1)) := (blk_cell BK158.out 1).trans rfl
     have hcz11_2 : w8.cell? ⟨gb158, 2, none⟩ = some (.slice A157_2 ((rd_T44 l0 a1).f2).length c157_2) := (blk_cell BK158.out 2).trans rfl
     have hcz11_3 : w8.cell? ⟨gb158, 3, none⟩ = some (.int .i64 ((rd_T44 l0 a1).f3)) := (blk_cell BK158.out 3).trans rfl
     have hfz11_0 := blk_frozen BK158.out 0
     have hfz11_1 := blk_frozen BK158.out 1
     have hfz11_2 := blk_frozen BK158.out 2
     have hfz11_3 := blk_frozen BK158.out 3
     go_wp2
     go_meet
     case rel => exact ⟨_, ((((rd_T44 l0 a1).f3) == 2)), (by first | rfl | (simp; done) | (simp [*]; done)), H', ⟨by first | omega | exact Nat.le_refl _⟩, ⟨by (with_reducible repeat (first | refine blk_drewN ?_ _ | refine blk_drew ?_ | refine blk_alloc ?_ _)); exact BK158.out⟩, ⟨by repeat (first | (with_reducible first | exact HB.out | apply below_alloc | apply pw_below_drewN | apply below_drew1 | refine below_set ?_ GE158.out) | exact HB.out)⟩⟩
   case rest =>
    clear HC5
    try clear c1
    try clear p1
    try clear q1
    try clear hx1
    try clear p2
    try clear c3
    try clear c3b0
    try clear c4
    try clear c4b0
    try clear c9
    try clear c9b0
    try clear c9b1
    try clear hcz10_0
    try clear hcz10_1
    try clear hcz10_2
    try clear hcz10_3
    try clear hcz11_0
    try clear hcz11_1
    try clear hcz11_2
    try clear hcz11_3
    try clear hcz7_0
    try clear hcz7_1
    try clear hcz7_2
    try clear hcz7_3
    try clear hfz10_0
    try clear hfz10_1
    try clear hfz10_2
    try clear hfz10_3
    try clear hfz11_0
    try clear hfz11_1
    try clear hfz11_2
    try clear hfz11_3
    try clear hfz7_0
    try clear hfz7_1
    try clear hfz7_2
    try clear hfz7_3
    try clear hx157_0
    try clear hx157_1
    try clear hx157_2
    try clear hx157_3
    try clear p157
    try clear q157
    obtain ⟨kq, x19_4, rfl, HA, HJ4, BK158, HB⟩ := hcut
    cases kq with
    | zero => exact absurd HA.out (by simp [spec_l8Null.j0])
    | succ kj4 =>
     have H := HA.out
     clear HA
     simp only [spec_l8Null.j0] at H
     by_cases c12 : x19_4 = true
     ·subst c12
      have H1 : (some true) = some r := by rw [if_pos rfl] at H; exact H
      clear H
      have H := H1
      clear H1
      obtain rfl := Option.some.inj H
      go_wp2
      go_ret
      exact ⟨by first | rfl | (simp [*] <;> rfl), by repeat (first | (with_reducible first | exact HB.out | apply below_alloc | apply pw_below_drewN | apply below_drew1 | refine below_set ?_ GE158.out) | exact HB.out)⟩
     ·replace c12 := Bool.eq_false_iff.mpr c12
      subst c12
      have H1 : (if ((rd_T44 l0 a1).f0) = 2 then (spec_l8Null.l0 kj4 l0 0 ((rd_T44 l0 a1).f0) ((rd_T44 l0 a1).f1) ((rd_T44 l0 a1).f2) ((rd_T44 l0 a1).f3)) else (if ((rd_T44 l0 a1).f0) = 3 then (spec_l8Null.l1 kj4 l0 0 ((rd_T44 l0 a1).f0) ((rd_T44 l0 a1).f1) ((rd_T44 l0 a1).f2) ((rd_T44 l0 a1).f3)) else (some false))) = some r := by rw [if_neg (show ¬ (false = true) by decide)] at H; exact H
      clear H
      have H := H1
      clear H1
      by_cases c13 : ((rd_T44 l0 a1).f0) = 2
      ·rw [if_pos c13] at H
       have c13b0 : (((rd_T44 l0 a1).f0) == 2) = true := beq_iff_eq.mpr c13
       have c13b1 : (((rd_T44 l0 a1).f0) != 2) = false := bne_eq_false_iff_eq.mpr c13
       clear c13
       have H' := Aside0.mk H
       clear H
       have hcz14_0 : wc.cell? ⟨gb158, 0, none⟩ = some (.int .i64 ((rd_T44 l0 a1).f0)) := (blk_cell BK158.out 0).trans rfl
       have hcz14_1 : wc.cell? ⟨gb158, 1, none⟩ = some (.string ((rd_T44 l0 a1).f1)) := (blk_cell BK158.out 1).trans rfl
       have hcz14_2 : wc.cell? ⟨gb158, 2, none⟩ = some (.slice A157_2 ((rd_T44 l0 a1).f2).length c157_2) := (blk_cell BK158.out 2).trans rfl
       have hcz14_3 : wc.cell? ⟨gb158, 3, none⟩ = some (.int .i64 ((rd_T44 l0 a1).f3)) := (blk_cell BK158.out 3).trans rfl
       have hfz14_0 := blk_frozen BK158.out 0
       have hfz14_1 := blk_frozen BK158.out 1
       have hfz14_2 := blk_frozen BK158.out 2
       have hfz14_3 := blk_frozen BK158.out 3
       go_wp2
       go_loopg [6] kj4 (fun kq v6 w' => ∃ (x6_2 : Int), v6 = .int .i64 x6_2 ∧ Aside0 (spec_l8Null.l0 kq l0 x6_2 ((rd_T44 l0 a1).f0) ((rd_T44 l0 a1).f1) ((rd_T44 l0 a1).f2) ((rd_T44 l0 a1).f3) = some r) ∧ Aside0 (kq ≤ kj4) ∧ Aside0 (w'.heap[gb158]? = some (.cells #[.int .i64 ((rd_T44 l0 a1).f0), .string ((rd_T44 l0 a1).f1), (.slice A157_2 ((rd_T44 l0 a1).f2).length c157_2), .int .i64 ((rd_T44 l0 a1).f3)] 44 (0, 0))) ∧ Aside0 (Below w.heap.size w w'))
       case atStart => exact ⟨(0), (by first | rfl | (simp; done) | (simp [*]; done)), H', ⟨Nat.le_refl _⟩, ⟨by (with_reducible repeat (first | refine blk_drewN ?_ _ | refine blk_drew ?_ | refine blk_alloc ?_ _)); exact BK158.out⟩, ⟨by repeat (first | (with_reducible first | exact HB.out | apply below_alloc | apply pw_below_drewN | apply below_drew1 | refine below_set ?_ GE158.out) | exact HB.out)⟩⟩
       case round =>
        clear H'
        try clear c1
        try clear p1
        try clear q1
        try clear hx1
        try clear p2
        try clear c3
        try clear c3b0
        try clear c4
        try clear c4b0
        try clear c9
        try clear c9b0
        try clear c9b1
        try clear c12
        try clear c13
        try clear c13b0
        try clear c13b1
        try clear hcz10_0
        try clear hcz10_1
        try clear hcz10_2
        try clear hcz10_3
        try clear hcz11_0
        try clear hcz11_1
        try clear hcz11_2
        try clear hcz11_3
        try clear hcz14_0
        try clear hcz14_1
        try clear hcz14_2
        try clear hcz14_3
        try clear hcz7_0
        try clear hcz7_1
        try clear hcz7_2
        try clear hcz7_3
        try clear hfz10_0
        try clear hfz10_1
        try clear hfz10_2
        try clear hfz10_3
        try clear hfz11_0
        try clear hfz11_1
        try clear hfz11_2
        try clear hfz11_3
        try clear hfz14_0
        try clear hfz14_1
        try clear hfz14_2
        try clear hfz14_3
        try clear hfz7_0
        try clear hfz7_1
        try clear hfz7_2
        try clear hfz7_3
        try clear hx157_0
        try clear hx157_1
        try clear hx157_2
        try clear hx157_3
        try clear p1
        try clear p157
        try clear p2
        try clear q1
        try clear q157
        obtain ⟨x6_2, rfl, HA, HK2, BK158, HB⟩ := hrel
        cases gk with
        | zero => exact absurd HA.out (by simp [spec_l8Null.l0])
        | succ k2 =>
         have H := HA.out
         clear HA
         simp only [spec_l8Null.l0] at H
         by_cases c15 : x6_2 < (((rd_T44 l0 a1).f2).length : Int)
         ·rw [if_pos c15] at H
          have c15b0 : decide (x6_2 < (((rd_T44 l0 a1).f2).length : Int)) = true := decide_eq_true c15
          clear c15
          by_cases c16 : 0 ≤ x6_2
          ·rw [if_pos c16] at H
           have c16b0 : decide (0 ≤ x6_2) = true := decide_eq_true c16
           clear c16
           replace H := Option.bind_eq_some_iff.mp H
           obtain ⟨t160, A170, H⟩ := H
           replace H : (if t160 = true then (spec_l8Null.l0 k2 l0 (wrap64 (x6_2 + 1)) ((rd_T44 l0 a1).f0) ((rd_T44 l0 a1).f1) ((rd_T44 l0 a1).f2) ((rd_T44 l0 a1).f3)) else (some false)) = some r := H
           have A17 := Aside0.mk A170
           clear A170
           by_cases c18 : t160 = true
           ·subst c18
            have H1 : (spec_l8Null.l0 k2 l0 (wrap64 (x6_2 + 1)) ((rd_T44 l0 a1).f0) ((rd_T44 l0 a1).f1) ((rd_T44 l0 a1).f2) ((rd_T44 l0 a1).f3)) = some r := by rw [if_pos rfl] at H; exact H
            clear H
            have H := H1
            clear H1
            have H' := Aside0.mk H
            clear H
            have hcz19_0 : wr.cell? ⟨gb158, 0, none⟩ = some (.int .i64 ((rd_T44 l0 a1).f0)) := (blk_cell BK158.out 0).trans rfl
            have hcz19_1 : wr.cell? ⟨gb158, 1, none⟩ = some (.string ((rd_T44 l0 a1).f1)) := (blk_cell BK158.out 1).trans rfl
            have hcz19_2 : wr.cell? ⟨gb158, 2, none⟩ = some (.slice A157_2 ((rd_T44 l0 a1).f2).length c157_2) := (blk_cell BK158.out 2).trans rfl
            have hcz19_3 : wr.cell? ⟨gb158, 3, none⟩ = some (.int .i64 ((rd_T44 l0 a1).f3)) := (blk_cell BK158.out 3).trans rfl
            have hfz19_0 := blk_frozen BK158.out 0
            have hfz19_1 := blk_frozen BK158.out 1
            have hfz19_2 := blk_frozen BK158.out 2
            have hfz19_3 := blk_frozen BK158.out 3
            have p159 : 0 ≤ (x6_2 : Int) := of_decide_eq_true (by first | (with_reducible assumption) | assumption)
            have q159 : x6_2 < (((rd_T44 l0 a1).f2).length : Int) := of_decide_eq_true (by first | (with_reducible assumption) | assumption)
            obtain ⟨ad159, e159, hx159_0⟩ := Kd.at_int HR157_2.out x6_2 p159 q159
            cases e159
            replace hx159_0 := (HB.out.cell (World.block_lt_of_cell? w _ hx159_0)).trans hx159_0
            replace p159 := eq_true p159
            replace q159 := eq_true q159
            go_wp2_with (first | ((with_reducible refine gate_callee (f := 39) rfl ?_); refine goesL_ (some 37) rfl rfl Try.func39 (by kernel_rfl) rfl #[.slice (some ad157) l0.length c0, .int .i64 (rd ((rd_T44 l0 a1).f2) x6_2)] rfl (by (try simp only [List.map_toArray, List.map_cons, List.map_nil]); first | done | rfl | (simp only [List.length_drop, List.length_take]; rfl)) ?_; (with_reducible refine (ih k2 (by have := HJ4.out; have := HK2.out; omega) _ _ l0 (rd ((rd_T44 l0 a1).f2) x6_2) true _ ?side1 ?side2 A17.out).mono ?_); (case side1 => repeat (first | exact (Kd.C_below HR0.out HB.out) | (with_reducible refine Kd.C_alloc ?_ _) | (with_reducible refine Kd.C_drewN ?_ _) | (with_reducible refine Kd.C_drew ?_))); (case side2 => exact HC0.out); rintro e w20 ⟨rfl, hb⟩; refine ⟨_, rfl, ?_⟩; have n0_ := Aside0.mk (blk_below (g := gb158) (o := .cells #[.int .i64 ((rd_T44 l0 a1).f0), .string ((rd_T44 l0 a1).f1), .slice (some ad159) ((rd_T44 l0 a1).f2).length c157_2, .int .i64 ((rd_T44 l0 a1).f3)] 44 (0, 0)) (by (with_reducible repeat (first | refine blk_drewN ?_ _ | refine blk_drew ?_ | refine blk_alloc ?_ _)); exact BK158.out) hb); have n1_ := Aside0.mk (below_step (by repeat (first | (with_reducible first | exact HB.out | apply below_alloc | apply pw_below_drewN | apply below_drew1 | refine below_set ?_ GE158.out) | exact HB.out)) hb); clear BK158; clear HB; have BK158 := n0_; have HB := n1_; clear n0_ n1_; (try clear hb); (try clear hb2); (try clear hk); (try clear hi)))
            go_roundg k2
            case measure => have := HJ4.out; have := HK2.out; omega
            case rel => exact ⟨(wrap64 (x6_2 + 1)), (by first | rfl | (simp; done) | (simp [*]; done)), H', ⟨by have := HJ4.out; have := HK2.out; omega⟩, ⟨by (with_reducible repeat (first | refine blk_drewN ?_ _ | refine blk_drew ?_ | refine blk_alloc ?_ _)); exact BK158.out⟩, ⟨by repeat (first | (with_reducible first | exact HB.out | apply below_alloc | apply pw_below_drewN | apply below_drew1 | refine below_set ?_ GE158.out) | exact HB.out)⟩⟩
           ·replace c18 := Bool.eq_false_iff.mpr c18
            subst c18
            have H1 : (some false) = some r := by rw [if_neg (show ¬ (false = true) by decide)] at H; exact H
            clear H
            have H := H1
            clear H1
            obtain rfl := Option.some.inj H
            have hcz21_0 : wr.cell? ⟨gb158, 0, none⟩ = some (.int .i64 ((rd_T44 l0 a1).f0)) := (blk_cell BK158.out 0).trans rfl
            have hcz21_1 : wr.cell? ⟨gb158, 1, none⟩ = some (.string ((rd_T44 l0 a1).f1)) := (blk_cell BK158.out 1).trans rfl
            have hcz21_2 : wr.cell? ⟨gb158, 2, none⟩ = some (.slice A157_2 ((rd_T44 l0 a1).f2).length c157_2) := (blk_cell BK158.out 2).trans rfl
            have hcz21_3 : wr.cell? ⟨gb158, 3, none⟩ = some (.int .i64 ((rd_T44 l0 a1).f3)) := (blk_cell BK158.out 3).trans rfl
            have hfz21_0 := blk_frozen BK158.out 0
            have hfz21_1 := blk_frozen BK158.out 1
            have hfz21_2 := blk_frozen BK158.out 2
            have hfz21_3 := blk_frozen BK158.out 3
            have p159 : 0 ≤ (x6_2 : Int) := of_decide_eq_true (by first | (with_reducible assumption) | assumption)
            have q159 : x6_2 < (((rd_T44 l0 a1).f2).length : Int) := of_decide_eq_true (by first | (with_reducible assumption) | assumption)
            obtain ⟨ad159, e159, hx159_0⟩ := Kd.at_int HR157_2.out x6_2 p159 q159
            cases e159
            replace hx159_0 := (HB.out.cell (World.block_lt_of_cell? w _ hx159_0)).trans hx159_0
            replace p159 := eq_true p159
            replace q159 := eq_true q159
            go_wp2_with (first | ((with_reducible refine gate_callee (f := 39) rfl ?_); refine goesL_ (some 37) rfl rfl Try.func39 (by kernel_rfl) rfl #[.slice (some ad157) l0.length c0, .int .i64 (rd ((rd_T44 l0 a1).f2) x6_2)] rfl (by (try simp only [List.map_toArray, List.map_cons, List.map_nil]); first | done | rfl | (simp only [List.length_drop, List.length_take]; rfl)) ?_; (with_reducible refine (ih k2 (by have := HJ4.out; have := HK2.out; omega) _ _ l0 (rd ((rd_T44 l0 a1).f2) x6_2) false _ ?side1 ?side2 A17.out).mono ?_); (case side1 => repeat (first | exact (Kd.C_below HR0.out HB.out) | (with_reducible refine Kd.C_alloc ?_ _) | (with_reducible refine Kd.C_drewN ?_ _) | (with_reducible refine Kd.C_drew ?_))); (case side2 => exact HC0.out); rintro e w22 ⟨rfl, hb⟩; refine ⟨_, rfl, ?_⟩; have n0_ := Aside0.mk (blk_below (g := gb158) (o := .cells #[.int .i64 ((rd_T44 l0 a1).f0), .string ((rd_T44 l0 a1).f1), .slice (some ad159) ((rd_T44 l0 a1).f2).length c157_2, .int .i64 ((rd_T44 l0 a1).f3)] 44 (0, 0)) (by (with_reducible repeat (first | refine blk_drewN ?_ _ | refine blk_drew ?_ | refine blk_alloc ?_ _)); exact BK158.out) hb); have n1_ := Aside0.mk (below_step (by repeat (first | (with_reducible first | exact HB.out | apply below_alloc | apply pw_below_drewN | apply below_drew1 | refine below_set ?_ GE158.out) | exact HB.out)) hb); clear BK158; clear HB; have BK158 := n0_; have HB := n1_; clear n0_ n1_; (try clear hb); (try clear hb2); (try clear hk); (try clear hi)))
            go_ret
            exact ⟨by first | rfl | (simp [*] <;> rfl), by repeat (first | (with_reducible first | exact HB.out | apply below_alloc | apply pw_below_drewN | apply below_drew1 | refine below_set ?_ GE158.out) | exact HB.out)⟩
          ·rw [if_neg c16] at H
           exact absurd H (by simp)
         ·rw [if_neg c15] at H
          have c15b0 : decide (x6_2 < (((rd_T44 l0 a1).f2).length : Int)) = false := decide_eq_false c15
          clear c15
          obtain rfl := Option.some.inj H
          have hcz23_0 : wr.cell? ⟨gb158, 0, none⟩ = some (.int .i64 ((rd_T44 l0 a1).f0)) := (blk_cell BK158.out 0).trans rfl
          have hcz23_1 : wr.cell? ⟨gb158, 1, none⟩ = some (.string ((rd_T44 l0 a1).f1)) := (blk_cell BK158.out 1).trans rfl
          have hcz23_2 : wr.cell? ⟨gb158, 2, none⟩ = some (.slice A157_2 ((rd_T44 l0 a1).f2).length c157_2) := (blk_cell BK158.out 2).trans rfl
          have hcz23_3 : wr.cell? ⟨gb158, 3, none⟩ = some (.int .i64 ((rd_T44 l0 a1).f3)) := (blk_cell BK158.out 3).trans rfl
          have hfz23_0 := blk_frozen BK158.out 0
          have hfz23_1 := blk_frozen BK158.out 1
          have hfz23_2 := blk_frozen BK158.out 2
          have hfz23_3 := blk_frozen BK158.out 3
          go_wp2
          go_ret
          exact ⟨by first | rfl | (simp [*] <;> rfl), by repeat (first | (with_reducible first | exact HB.out | apply below_alloc | apply pw_below_drewN | apply below_drew1 | refine below_set ?_ GE158.out) | exact HB.out)⟩
      ·rw [if_neg c13] at H
       have c13b0 : (((rd_T44 l0 a1).f0) == 2) = false := beq_eq_false_iff_ne.mpr c13
       have c13b1 : (((rd_T44 l0 a1).f0) != 2) = true := bne_iff_ne.mpr c13
       by_cases c24 : ((rd_T44 l0 a1).f0) = 3
       ·rw [if_pos c24] at H
        have c24b0 : (((rd_T44 l0 a1).f0) == 3) = true := beq_iff_eq.mpr c24
        have c24b1 : (((rd_T44 l0 a1).f0) != 3) = false := bne_eq_false_iff_eq.mpr c24
        clear c24
        have H' := Aside0.mk H
        clear H
        have hcz25_0 : wc.cell? ⟨gb158, 0, none⟩ = some (.int .i64 ((rd_T44 l0 a1).f0)) := (blk_cell BK158.out 0).trans rfl
        have hcz25_1 : wc.cell? ⟨gb158, 1, none⟩ = some (.string ((rd_T44 l0 a1).f1)) := (blk_cell BK158.out 1).trans rfl
        have hcz25_2 : wc.cell? ⟨gb158, 2, none⟩ = some (.slice A157_2 ((rd_T44 l0 a1).f2).length c157_2) := (blk_cell BK158.out 2).trans rfl
        have hcz25_3 : wc.cell? ⟨gb158, 3, none⟩ = some (.int .i64 ((rd_T44 l0 a1).f3)) := (blk_cell BK158.out 3).trans rfl
        have hfz25_0 := blk_frozen BK158.out 0
        have hfz25_1 := blk_frozen BK158.out 1
        have hfz25_2 := blk_frozen BK158.out 2
        have hfz25_3 := blk_frozen BK158.out 3
        go_wp2
        go_loopg [7] kj4 (fun kq v7 w' => ∃ (x7_2 : Int), v7 = .int .i64 x7_2 ∧ Aside0 (spec_l8Null.l1 kq l0 x7_2 ((rd_T44 l0 a1).f0) ((rd_T44 l0 a1).f1) ((rd_T44 l0 a1).f2) ((rd_T44 l0 a1).f3) = some r) ∧ Aside0 (kq ≤ kj4) ∧ Aside0 (w'.heap[gb158]? = some (.cells #[.int .i64 ((rd_T44 l0 a1).f0), .string ((rd_T44 l0 a1).f1), (.slice A157_2 ((rd_T44 l0 a1).f2).length c157_2), .int .i64 ((rd_T44 l0 a1).f3)] 44 (0, 0))) ∧ Aside0 (Below w.heap.size w w'))
        case atStart => exact ⟨(0), (by first | rfl | (simp; done) | (simp [*]; done)), H', ⟨Nat.le_refl _⟩, ⟨by (with_reducible repeat (first | refine blk_drewN ?_ _ | refine blk_drew ?_ | refine blk_alloc ?_ _)); exact BK158.out⟩, ⟨by repeat (first | (with_reducible first | exact HB.out | apply below_alloc | apply pw_below_drewN | apply below_drew1 | refine below_set ?_ GE158.out) | exact HB.out)⟩⟩
        case round =>
         clear H'
         try clear c1
         try clear p1
         try clear q1
         try clear hx1
         try clear c2
         try clear p2
         try clear c3
         try clear c3b0
         try clear c4
         try clear c4b0
         try clear p6
         try clear c9
         try clear c9b0
         try clear c9b1
         try clear c12
         try clear c13
         try clear c13b0
         try clear c13b1
         try clear c15
         try clear c15b0
         try clear p15
         try clear q15
         try clear hx15
         try clear c16
         try clear c16b0
         try clear c18
         try clear c24
         try clear c24b0
         try clear c24b1
         try clear hcz10_0
         try clear hcz10_1
         try clear hcz10_2
         try clear hcz10_3
         try clear hcz11_0
         try clear hcz11_1
         try clear hcz11_2
         try clear hcz11_3
         try clear hcz14_0
         try clear hcz14_1
         try clear hcz14_2
         try clear hcz14_3
         try clear hcz19_0
         try clear hcz19_1
         try clear hcz19_2
         try clear hcz19_3
         try clear hcz21_0
         try clear hcz21_1
         try clear hcz21_2
         try clear hcz21_3
         try clear hcz23_0
         try clear hcz23_1
         try clear hcz23_2
         try clear hcz23_3
         try clear hcz25_0
         try clear hcz25_1
         try clear hcz25_2
         try clear hcz25_3
         try clear hcz7_0
         try clear hcz7_1
         try clear hcz7_2
         try clear hcz7_3
         try clear hfz10_0
         try clear hfz10_1
         try clear hfz10_2
         try clear hfz10_3
         try clear hfz11_0
         try clear hfz11_1
         try clear hfz11_2
         try clear hfz11_3
         try clear hfz14_0
         try clear hfz14_1
         try clear hfz14_2
         try clear hfz14_3
         try clear hfz19_0
         try clear hfz19_1
         try clear hfz19_2
         try clear hfz19_3
         try clear hfz21_0
         try clear hfz21_1
         try clear hfz21_2
         try clear hfz21_3
         try clear hfz23_0
         try clear hfz23_1
         try clear hfz23_2
         try clear hfz23_3
         try clear hfz25_0
         try clear hfz25_1
         try clear hfz25_2
         try clear hfz25_3
         try clear hfz7_0
         try clear hfz7_1
         try clear hfz7_2
         try clear hfz7_3
         try clear hx157_0
         try clear hx157_1
         try clear hx157_2
         try clear hx157_3
         try clear hx159_0
         try clear p1
         try clear p157
         try clear p159
         try clear p2
         try clear q1
         try clear q157
         try clear q159
         obtain ⟨x7_2, rfl, HA, HK2, BK158, HB⟩ := hrel
         cases gk with
         | zero => exact absurd HA.out (by simp [spec_l8Null.l1])
         | succ k2 =>
          have H := HA.out
          clear HA
          simp only [spec_l8Null.l1] at H
          by_cases c26 : x7_2 < (((rd_T44 l0 a1).f2).length : Int)
          ·rw [if_pos c26] at H
           have c26b0 : decide (x7_2 < (((rd_T44 l0 a1).f2).length : Int)) = true := decide_eq_true c26
           clear c26
           by_cases c27 : 0 ≤ x7_2
           ·rw [if_pos c27] at H
            have c27b0 : decide (0 ≤ x7_2) = true := decide_eq_true c27
            clear c27
            replace H := Option.bind_eq_some_iff.mp H
            obtain ⟨t162, A280, H⟩ := H
            replace H : (if t162 = true then (some true) else (spec_l8Null.l1 k2 l0 (wrap64 (x7_2 + 1)) ((rd_T44 l0 a1).f0) ((rd_T44 l0 a1).f1) ((rd_T44 l0 a1).f2) ((rd_T44 l0 a1).f3))) = some r := H
            have A28 := Aside0.mk A280
            clear A280
            by_cases c29 : t162 = true
            ·subst c29
             have H1 : (some true) = some r := by rw [if_pos rfl] at H; exact H
             clear H
             have H := H1
             clear H1
             obtain rfl := Option.some.inj H
             have hcz30_0 : wr.cell? ⟨gb158, 0, none⟩ = some (.int .i64 ((rd_T44 l0 a1).f0)) := (blk_cell BK158.out 0).trans rfl
             have hcz30_1 : wr.cell? ⟨gb158, 1, none⟩ = some (.string ((rd_T44 l0 a1).f1)) := (blk_cell BK158.out 1).trans rfl
             have hcz30_2 : wr.cell? ⟨gb158, 2, none⟩ = some (.slice A157_2 ((rd_T44 l0 a1).f2).length c157_2) := (blk_cell BK158.out 2).trans rfl
             have hcz30_3 : wr.cell? ⟨gb158, 3, none⟩ = some (.int .i64 ((rd_T44 l0 a1).f3)) := (blk_cell BK158.out 3).trans rfl
             have hfz30_0 := blk_frozen BK158.out 0
             have hfz30_1 := blk_frozen BK158.out 1
             have hfz30_2 := blk_frozen BK158.out 2
             have hfz30_3 := blk_frozen BK158.out 3
             have p161 : 0 ≤ (x7_2 : Int) := of_decide_eq_true (by first | (with_reducible assumption) | assumption)
             have q161 : x7_2 < (((rd_T44 l0 a1).f2).length : Int) := of_decide_eq_true (by first | (with_reducible assumption) | assumption)
             obtain ⟨ad161, e161, hx161_0⟩ := Kd.at_int HR157_2.out x7_2 p161 q161
             cases e161
             replace hx161_0 := (HB.out.cell (World.block_lt_of_cell? w _ hx161_0)).trans hx161_0
             replace p161 := eq_true p161
             replace q161 := eq_true q161
             go_wp2_with (first | ((with_reducible refine gate_callee (f := 39) rfl ?_); refine goesL_ (some 54) rfl rfl Try.func39 (by kernel_rfl) rfl #[.slice (some ad157) l0.length c0, .int .i64 (rd ((rd_T44 l0 a1).f2) x7_2)] rfl (by (try simp only [List.map_toArray, List.map_cons, List.map_nil]); first | done | rfl | (simp only [List.length_drop, List.length_take]; rfl)) ?_; (with_reducible refine (ih k2 (by have := HJ4.out; have := HK2.out; omega) _ _ l0 (rd ((rd_T44 l0 a1).f2) x7_2) true _ ?side1 ?side2 A28.out).mono ?_); (case side1 => repeat (first | exact (Kd.C_below HR0.out HB.out) | (with_reducible refine Kd.C_alloc ?_ _) | (with_reducible refine Kd.C_drewN ?_ _) | (with_reducible refine Kd.C_drew ?_))); (case side2 => exact HC0.out); rintro e w31 ⟨rfl, hb⟩; refine ⟨_, rfl, ?_⟩; have n0_ := Aside0.mk (blk_below (g := gb158) (o := .cells #[.int .i64 ((rd_T44 l0 a1).f0), .string ((rd_T44 l0 a1).f1), .slice (some ad161) ((rd_T44 l0 a1).f2).length c157_2, .int .i64 ((rd_T44 l0 a1).f3)] 44 (0, 0)) (by (with_reducible repeat (first | refine blk_drewN ?_ _ | refine blk_drew ?_ | refine blk_alloc ?_ _)); exact BK158.out) hb); have n1_ := Aside0.mk (below_step (by repeat (first | (with_reducible first | exact HB.out | apply below_alloc | apply pw_below_drewN | apply below_drew1 | refine below_set ?_ GE158.out) | exact HB.out)) hb); clear BK158; clear HB; have BK158 := n0_; have HB := n1_; clear n0_ n1_; (try clear hb); (try clear hb2); (try clear hk); (try clear hi)))
             go_ret
             exact ⟨by first | rfl | (simp [*] <;> rfl), by repeat (first | (with_reducible first | exact HB.out | apply below_alloc | apply pw_below_drewN | apply below_drew1 | refine below_set ?_ GE158.out) | exact HB.out)⟩
            ·replace c29 := Bool.eq_false_iff.mpr c29
             subst c29
             have H1 : (spec_l8Null.l1 k2 l0 (wrap64 (x7_2 + 1)) ((rd_T44 l0 a1).f0) ((rd_T44 l0 a1).f1) ((rd_T44 l0 a1).f2) ((rd_T44 l0 a1).f3)) = some r := by rw [if_neg (show ¬ (false = true) by decide)] at H; exact H
             clear H
             have H := H1
             clear H1
             have H' := Aside0.mk H
             clear H
             have hcz32_0 : wr.cell? ⟨gb158, 0, none⟩ = some (.int .i64 ((rd_T44 l0 a1).f0)) := (blk_cell BK158.out 0).trans rfl
             have hcz32_1 : wr.cell? ⟨gb158, 1, none⟩ = some (.string ((rd_T44 l0 a1).f1)) := (blk_cell BK158.out 1).trans rfl
             have hcz32_2 : wr.cell? ⟨gb158, 2, none⟩ = some (.slice A157_2 ((rd_T44 l0 a1).f2).length c157_2) := (blk_cell BK158.out 2).trans rfl
             have hcz32_3 : wr.cell? ⟨gb158, 3, none⟩ = some (.int .i64 ((rd_T44 l0 a1).f3)) := (blk_cell BK158.out 3).trans rfl
             have hfz32_0 := blk_frozen BK158.out 0
             have hfz32_1 := blk_frozen BK158.out 1
             have hfz32_2 := blk_frozen BK158.out 2
             have hfz32_3 := blk_frozen BK158.out 3
             have p161 : 0 ≤ (x7_2 : Int) := of_decide_eq_true (by first | (with_reducible assumption) | assumption)
             have q161 : x7_2 < (((rd_T44 l0 a1).f2).length : Int) := of_decide_eq_true (by first | (with_reducible assumption) | assumption)
             obtain ⟨ad161, e161, hx161_0⟩ := Kd.at_int HR157_2.out x7_2 p161 q161
             cases e161
             replace hx161_0 := (HB.out.cell (World.block_lt_of_cell? w _ hx161_0)).trans hx161_0
             replace p161 := eq_true p161
             replace q161 := eq_true q161
             go_wp2_with (first | ((with_reducible refine gate_callee (f := 39) rfl ?_); refine goesL_ (some 54) rfl rfl Try.func39 (by kernel_rfl) rfl #[.slice (some ad157) l0.length c0, .int .i64 (rd ((rd_T44 l0 a1).f2) x7_2)] rfl (by (try simp only [List.map_toArray, List.map_cons, List.map_nil]); first | done | rfl | (simp only [List.length_drop, List.length_take]; rfl)) ?_; (with_reducible refine (ih k2 (by have := HJ4.out; have := HK2.out; omega) _ _ l0 (rd ((rd_T44 l0 a1).f2) x7_2) false _ ?side1 ?side2 A28.out).mono ?_); (case side1 => repeat (first | exact (Kd.C_below HR0.out HB.out) | (with_reducible refine Kd.C_alloc ?_ _) | (with_reducible refine Kd.C_drewN ?_ _) | (with_reducible refine Kd.C_drew ?_))); (case side2 => exact HC0.out); rintro e w33 ⟨rfl, hb⟩; refine ⟨_, rfl, ?_⟩; have n0_ := Aside0.mk (blk_below (g := gb158) (o := .cells #[.int .i64 ((rd_T44 l0 a1).f0), .string ((rd_T44 l0 a1).f1), .slice (some ad161) ((rd_T44 l0 a1).f2).length c157_2, .int .i64 ((rd_T44 l0 a1).f3)] 44 (0, 0)) (by (with_reducible repeat (first | refine blk_drewN ?_ _ | refine blk_drew ?_ | refine blk_alloc ?_ _)); exact BK158.out) hb); have n1_ := Aside0.mk (below_step (by repeat (first | (with_reducible first | exact HB.out | apply below_alloc | apply pw_below_drewN | apply below_drew1 | refine below_set ?_ GE158.out) | exact HB.out)) hb); clear BK158; clear HB; have BK158 := n0_; have HB := n1_; clear n0_ n1_; (try clear hb); (try clear hb2); (try clear hk); (try clear hi)))
             go_roundg k2
             case measure => have := HJ4.out; have := HK2.out; omega
             case rel => exact ⟨(wrap64 (x7_2 + 1)), (by first | rfl | (simp; done) | (simp [*]; done)), H', ⟨by have := HJ4.out; have := HK2.out; omega⟩, ⟨by (with_reducible repeat (first | refine blk_drewN ?_ _ | refine blk_drew ?_ | refine blk_alloc ?_ _)); exact BK158.out⟩, ⟨by repeat (first | (with_reducible first | exact HB.out | apply below_alloc | apply pw_below_drewN | apply below_drew1 | refine below_set ?_ GE158.out) | exact HB.out)⟩⟩
           ·rw [if_neg c27] at H
            exact absurd H (by simp)
          ·rw [if_neg c26] at H
           have c26b0 : decide (x7_2 < (((rd_T44 l0 a1).f2).length : Int)) = false := decide_eq_false c26
           clear c26
           obtain rfl := Option.some.inj H
           have hcz34_0 : wr.cell? ⟨gb158, 0, none⟩ = some (.int .i64 ((rd_T44 l0 a1).f0)) := (blk_cell BK158.out 0).trans rfl
           have hcz34_1 : wr.cell? ⟨gb158, 1, none⟩ = some (.string ((rd_T44 l0 a1).f1)) := (blk_cell BK158.out 1).trans rfl
           have hcz34_2 : wr.cell? ⟨gb158, 2, none⟩ = some (.slice A157_2 ((rd_T44 l0 a1).f2).length c157_2) := (blk_cell BK158.out 2).trans rfl
           have hcz34_3 : wr.cell? ⟨gb158, 3, none⟩ = some (.int .i64 ((rd_T44 l0 a1).f3)) := (blk_cell BK158.out 3).trans rfl
           have hfz34_0 := blk_frozen BK158.out 0
           have hfz34_1 := blk_frozen BK158.out 1
           have hfz34_2 := blk_frozen BK158.out 2
           have hfz34_3 := blk_frozen BK158.out 3
           go_wp2
           go_ret
           exact ⟨by first | rfl | (simp [*] <;> rfl), by repeat (first | (with_reducible first | exact HB.out | apply below_alloc | apply pw_below_drewN | apply below_drew1 | refine below_set ?_ GE158.out) | exact HB.out)⟩
       ·rw [if_neg c24] at H
        have c24b0 : (((rd_T44 l0 a1).f0) == 3) = false := beq_eq_false_iff_ne.mpr c24
        have c24b1 : (((rd_T44 l0 a1).f0) != 3) = true := bne_iff_ne.mpr c24
        obtain rfl := Option.some.inj H
        have hcz35_0 : wc.cell? ⟨gb158, 0, none⟩ = some (.int .i64 ((rd_T44 l0 a1).f0)) := (blk_cell BK158.out 0).trans rfl
        have hcz35_1 : wc.cell? ⟨gb158, 1, none⟩ = some (.string ((rd_T44 l0 a1).f1)) := (blk_cell BK158.out 1).trans rfl
        have hcz35_2 : wc.cell? ⟨gb158, 2, none⟩ = some (.slice A157_2 ((rd_T44 l0 a1).f2).length c157_2) := (blk_cell BK158.out 2).trans rfl
        have hcz35_3 : wc.cell? ⟨gb158, 3, none⟩ = some (.int .i64 ((rd_T44 l0 a1).f3)) := (blk_cell BK158.out 3).trans rfl
        have hfz35_0 := blk_frozen BK158.out 0
        have hfz35_1 := blk_frozen BK158.out 1
        have hfz35_2 := blk_frozen BK158.out 2
        have hfz35_3 := blk_frozen BK158.out 3
        go_wp2
        go_ret
        exact ⟨by first | rfl | (simp [*] <;> rfl), by repeat (first | (with_reducible first | exact HB.out | apply below_alloc | apply pw_below_drewN | apply below_drew1 | refine below_set ?_ GE158.out) | exact HB.out)⟩
  ·rw [if_neg c4] at H
   exact absurd H (by simp)
 ·rw [if_neg c3] at H
  exact absurd H (by simp)

/-! ### spec_Nullable: function 14 -/
def spec_Nullable.f (k : Nat) (l0 : List (S44)) : Option (Bool) := (spec_ParticleOk.f k l0).bind fun t163 => (if t163 = true then ((spec_l8Null.f k l0 (wrap64 ((l0.length : Int) - 1))).bind fun t164 => (some t164)) else (some false))
theorem spec_Nullable.mono : ∀ a0 k, LeO (spec_Nullable.f k a0) (spec_Nullable.f (k + 1) a0) := by
 intro a0 k
 unfold spec_Nullable.f
 repeat' first
   | (with_reducible exact spec_ParticleOk.mono _ _)
   | (with_reducible exact spec_l8Null.mono _ _ _)
   | (with_reducible exact LeO.refl _)
   | (with_reducible exact LeO.none _)
   | (with_reducible refine LeO.ite ?_ ?_)
   | (with_reducible refine LeO.bind ?_ (fun _ => ?_))
   | exact spec_ParticleOk.mono _ _
   | exact spec_l8Null.mono _ _ _
   | exact LeO.none _
   | refine LeO.ite ?_ ?_
   | refine LeO.bind ?_ (fun _ => ?_)
set_option maxHeartbeats 8000000 in
set_option maxRecDepth 100000 in
theorem spec_Nullable.calls (k : Nat) (A0 : Option Addr) (c0 : Nat) (l0 : List (S44)) (r : Bool) (w : World) (hr0 : Kd.C k44 w A0 l0.length l0) (hc0 : l0.length ≤ c0) (h : spec_Nullable.f k l0 = some r) :
  Calls Try.prog 14 #[.slice A0 l0.length c0] w fun e w' => e = .returned (.bool r) ∧ Below w.heap.size w w' := by
 have HR0 := Aside0.mk hr0
 have HC0 := Aside0.mk hc0
 clear hr0 hc0
 have HB := Aside0.mk (Below.refl w.heap.size w)
 have H : ((spec_ParticleOk.f k l0).bind fun t163 => (if t163 = true then ((spec_l8Null.f k l0 (wrap64 ((l0.length : Int) - 1))).bind fun t164 => (some t164)) else (some false))) = some r := h
 clear h
 replace H := Option.bind_eq_some_iff.mp H
 obtain ⟨t163, A20, H⟩ := H
 replace H : (if t163 = true then ((spec_l8Null.f k l0 (wrap64 ((l0.length : Int) - 1))).bind fun t164 => (some t164)) else (some false)) = some r := H
 have A2 := Aside0.mk A20
 clear A20
 by_cases c3 : t163 = true
 ·subst c3
  have H1 : ((spec_l8Null.f k l0 (wrap64 ((l0.length : Int) - 1))).bind fun t164 => (some t164)) = some r := by rw [if_pos rfl] at H; exact H
  clear H
  have H := H1
  clear H1
  replace H := Option.bind_eq_some_iff.mp H
  obtain ⟨t164, A40, H⟩ := H
  replace H : (some t164) = some r := H
  have A4 := Aside0.mk A40
  clear A40
  obtain rfl := Option.some.inj H
  go_enter Try.func14, Try.ntmps14
  go_wp2_with (first | ((with_reducible refine gate_callee (f := 10) rfl ?_); refine goesL_ (some 4) rfl rfl Try.func10 (by kernel_rfl) rfl #[.slice A0 l0.length c0] rfl (by (try simp only [List.map_toArray, List.map_cons, List.map_nil]); first | done | rfl | (simp only [List.length_drop, List.length_take]; rfl)) ?_; (with_reducible refine (spec_ParticleOk.calls k _ _ l0 true _ ?side1 ?side2 A2.out).mono ?_); (case side1 => repeat (first | exact HR0.out | (with_reducible refine Kd.C_alloc ?_ _) | (with_reducible refine Kd.C_drewN ?_ _) | (with_reducible refine Kd.C_drew ?_))); (case side2 => exact HC0.out); rintro e w5 ⟨rfl, hb⟩; refine ⟨_, rfl, ?_⟩; have n0_ := Aside0.mk (below_step (by repeat (first | (with_reducible first | exact HB.out | apply below_alloc | apply pw_below_drewN | apply below_drew1) | exact HB.out)) hb); clear HB; have HB := n0_; clear n0_; (try clear hb); (try clear hb2); (try clear hk); (try clear hi)) | (go_at_call 39; (with_reducible refine (spec_l8Null.calls k _ _ l0 (wrap64 ((l0.length : Int) - 1)) t164 _ ?side1 ?side2 A4.out).mono ?_); (case side1 => repeat (first | exact (Kd.C_below HR0.out HB.out) | (with_reducible refine Kd.C_alloc ?_ _) | (with_reducible refine Kd.C_drewN ?_ _) | (with_reducible refine Kd.C_drew ?_))); (case side2 => exact HC0.out); rintro e w6 ⟨rfl, hb⟩; have n0_ := Aside0.mk (below_step (by repeat (first | (with_reducible first | exact HB.out | apply below_alloc | apply pw_below_drewN | apply below_drew1) | exact HB.out)) hb); clear HB; have HB := n0_; clear n0_; (try clear hb); (try clear hb2); (try clear hk); (try clear hi)))
  go_ret
  exact ⟨by first | rfl | (simp [*] <;> rfl), by repeat (first | (with_reducible first | exact HB.out | apply below_alloc | apply pw_below_drewN | apply below_drew1) | exact HB.out)⟩
 ·replace c3 := Bool.eq_false_iff.mpr c3
  subst c3
  have H1 : (some false) = some r := by rw [if_neg (show ¬ (false = true) by decide)] at H; exact H
  clear H
  have H := H1
  clear H1
  obtain rfl := Option.some.inj H
  go_enter Try.func14, Try.ntmps14
  go_wp2_with (first | ((with_reducible refine gate_callee (f := 10) rfl ?_); refine goesL_ (some 4) rfl rfl Try.func10 (by kernel_rfl) rfl #[.slice A0 l0.length c0] rfl (by (try simp only [List.map_toArray, List.map_cons, List.map_nil]); first | done | rfl | (simp only [List.length_drop, List.length_take]; rfl)) ?_; (with_reducible refine (spec_ParticleOk.calls k _ _ l0 false _ ?side1 ?side2 A2.out).mono ?_); (case side1 => repeat (first | exact HR0.out | (with_reducible refine Kd.C_alloc ?_ _) | (with_reducible refine Kd.C_drewN ?_ _) | (with_reducible refine Kd.C_drew ?_))); (case side2 => exact HC0.out); rintro e w7 ⟨rfl, hb⟩; refine ⟨_, rfl, ?_⟩; have n0_ := Aside0.mk (below_step (by repeat (first | (with_reducible first | exact HB.out | apply below_alloc | apply pw_below_drewN | apply below_drew1) | exact HB.out)) hb); clear HB; have HB := n0_; clear n0_; (try clear hb); (try clear hb2); (try clear hk); (try clear hi)))
  go_ret
  exact ⟨by first | rfl | (simp [*] <;> rfl), by repeat (first | (with_reducible first | exact HB.out | apply below_alloc | apply pw_below_drewN | apply below_drew1) | exact HB.out)⟩

/-! ### impl_in: function 35 -/
def impl_in.f (a0 : Int) (a1 : Int) (a2 : Int) : Option (Bool) := if a1 ≤ a0 then (some (decide (a0 ≤ a2))) else (some false)
set_option maxHeartbeats 8000000 in
set_option maxRecDepth 100000 in
theorem impl_in.calls (a0 : Int) (a1 : Int) (a2 : Int) (r : Bool) (w : World) (h : impl_in.f a0 a1 a2 = some r) :
  Calls Try.prog 35 #[.int .i64 a0, .int .i64 a1, .int .i64 a2] w fun e w' => e = .returned (.bool r) ∧ Drawn0 w w' := by
 have H : (if a1 ≤ a0 then (some (decide (a0 ≤ a2))) else (some false)) = some r := h
 clear h
 by_cases c4 : a1 ≤ a0
 ·rw [if_pos c4] at H
  have c4b0 : decide (a1 ≤ a0) = true := decide_eq_true c4
  clear c4
  obtain rfl := Option.some.inj H
  go_enter Try.func35, Try.ntmps35
  go_wp2
  go_ret
  exact ⟨by first | rfl | (simp; done) | (simp [*]; done), by repeat (first | exact Drawn0.refl _ | apply Drawn0.step)⟩
 ·rw [if_neg c4] at H
  have c4b0 : decide (a1 ≤ a0) = false := decide_eq_false c4
  clear c4
  obtain rfl := Option.some.inj H
  go_enter Try.func35, Try.ntmps35
  go_wp2
  go_ret
  exact ⟨by first | rfl | (simp; done) | (simp [*]; done), by repeat (first | exact Drawn0.refl _ | apply Drawn0.step)⟩

end Go.Proofs.Ytaliphegdclkfaa.PL
