-- Printed by this session's pdrive.py over the kit's printer.
import Derived.Test.YtdfopjmokbcnlaaPFx0
import Derived.Test.YtdfopjmokbcnlaaPFx7
import Derived.Test.YtdfopjmokbcnlaaPFx8
namespace Go.Proofs.Ytdfopjmokbcnlaa.PF
open Go.RowKit Go.Proofs.YtdfopjmokbcnlaaW.PrintWords Go.Proofs.YtdfopjmokbcnlaaW.PrintLast Go.Proofs.YtdfopjmokbcnlaaW.PrintMore Go.Proofs.YtdfopjmokbcnlaaW.WordsB
attribute [local go_sem] max2_int min2_int max_two min_two max_three min_three max_four min_four   -- for this text's walks alone
set_option linter.unusedVariables false
set_option linter.unusedSimpArgs false

/-! ### spec_DrawShifted: function 30 -/
def spec_DrawShifted.f (k : Nat) (l0 : List Int) : Option (Int × Int × Int × Int × Int × Int × Bool × Int × Int) := (spec_l1Open.f l0).bind fun bt234 => ((spec_l1Rd_date.f k bt234.1 bt234.2).bind fun bt237 => ((spec_l1Rd_off.f k bt234.1 bt237.2.2.2.2.2.2.2.2 (-840) 840).bind fun bt247 => (some (bt237.1, bt237.2.1, bt237.2.2.1, bt237.2.2.2.1, bt237.2.2.2.2.1, bt237.2.2.2.2.2.1, bt237.2.2.2.2.2.2.1, bt237.2.2.2.2.2.2.2.1, bt247.1))))
theorem spec_DrawShifted.mono : ∀ a0 k, LeO (spec_DrawShifted.f k a0) (spec_DrawShifted.f (k + 1) a0) := by
 intro a0 k
 unfold spec_DrawShifted.f
 repeat' first
   | (with_reducible exact spec_l1Rd_date.mono _ _ _)
   | (with_reducible exact spec_l1Rd_off.mono _ _ _ _ _)
   | (with_reducible exact LeO.refl _)
   | (with_reducible exact LeO.none _)
   | (with_reducible refine LeO.ite ?_ ?_)
   | (with_reducible refine LeO.bind ?_ (fun _ => ?_))
   | exact spec_l1Rd_date.mono _ _ _
   | exact spec_l1Rd_off.mono _ _ _ _ _
   | exact LeO.none _
   | refine LeO.ite ?_ ?_
   | refine LeO.bind ?_ (fun _ => ?_)
set_option maxHeartbeats 8000000 in
set_option maxRecDepth 100000 in
theorem spec_DrawShifted.calls (k : Nat) (A0 : Option Addr) (c0 : Nat) (l0 : List Int) (r1 : Int) (r2 : Int) (r3 : Int) (r4 : Int) (r5 : Int) (r6 : Int) (r7 : Bool) (r8 : Int) (r9 : Int) (w : World) (hr0 : Kd.C (Kd.int .u8) w A0 l0.length l0) (hc0 : l0.length ≤ c0) (h : spec_DrawShifted.f k l0 = some (r1, r2, r3, r4, r5, r6, r7, r8, r9)) :
  Calls Try.prog 30 #[.slice A0 l0.length c0] w fun e w' => e = .returned (.tuple #[.agg #[.int .i64 r1, .int .i64 r2, .int .i64 r3, .int .i64 r4, .int .i64 r5, .int .i64 r6, .bool r7, .int .i64 r8], .int .i64 r9]) ∧ Below w.heap.size w w' := by
 have hu29 := Try.underlying29
 have HR0 := Aside0.mk hr0
 have HC0 := Aside0.mk hc0
 clear hr0 hc0
 have HB := Aside0.mk (Below.refl w.heap.size w)
 have H : ((spec_l1Open.f l0).bind fun bt234 => ((spec_l1Rd_date.f k bt234.1 bt234.2).bind fun bt237 => ((spec_l1Rd_off.f k bt234.1 bt237.2.2.2.2.2.2.2.2 (-840) 840).bind fun bt247 => (some (bt237.1, bt237.2.1, bt237.2.2.1, bt237.2.2.2.1, bt237.2.2.2.2.1, bt237.2.2.2.2.2.1, bt237.2.2.2.2.2.2.1, bt237.2.2.2.2.2.2.2.1, bt247.1))))) = some (r1, r2, r3, r4, r5, r6, r7, r8, r9) := h
 clear h
 replace H := Option.bind_eq_some_iff.mp H
 obtain ⟨⟨t234, t235⟩, A20, H⟩ := H
 replace H : ((spec_l1Rd_date.f k t234 t235).bind fun bt237 => ((spec_l1Rd_off.f k t234 bt237.2.2.2.2.2.2.2.2 (-840) 840).bind fun bt247 => (some (bt237.1, bt237.2.1, bt237.2.2.1, bt237.2.2.2.1, bt237.2.2.2.2.1, bt237.2.2.2.2.2.1, bt237.2.2.2.2.2.2.1, bt237.2.2.2.2.2.2.2.1, bt247.1)))) = some (r1, r2, r3, r4, r5, r6, r7, r8, r9) := H
 have A2 := Aside0.mk A20
 clear A20
 replace H := Option.bind_eq_some_iff.mp H
 obtain ⟨⟨t237, t238, t239, t240, t241, t242, t243, t244, t245⟩, A30, H⟩ := H
 replace H : ((spec_l1Rd_off.f k t234 t245 (-840) 840).bind fun bt247 => (some (t237, t238, t239, t240, t241, t242, t243, t244, bt247.1))) = some (r1, r2, r3, r4, r5, r6, r7, r8, r9) := H
 have A3 := Aside0.mk A30
 clear A30
 replace H := Option.bind_eq_some_iff.mp H
 obtain ⟨⟨t247, t248⟩, A40, H⟩ := H
 replace H : (some (t237, t238, t239, t240, t241, t242, t243, t244, t247)) = some (r1, r2, r3, r4, r5, r6, r7, r8, r9) := H
 have A4 := Aside0.mk A40
 clear A40
 simp only [Option.some.injEq, Prod.mk.injEq] at H
 obtain ⟨rfl, rfl, rfl, rfl, rfl, rfl, rfl, rfl, rfl⟩ := H
 go_enter Try.func30, Try.ntmps30
 try go_wp2_with (first | ((with_reducible refine gate_dst (N := 2) rfl ?_); refine box_event ?hg (N := 2) ?hd (cs := #[.int .i64 0, .int .i64 0, .int .i64 0, .int .i64 0, .int .i64 0, .int .i64 0, .bool false, .int .i64 0]) (t := 29) ?hr ?_; (case hd => rfl); (case hg => rfl); (case hr => first | (go_simp; done) | (go_simp; rfl)); intro gb233 hg w5 hbox hb; have n0_ := Aside0.mk (below_step (by repeat (first | (with_reducible first | exact HB.out | apply below_alloc | apply pw_below_drewN | apply below_drew1) | exact HB.out)) hb); have n1_ := Aside0.mk (hbox); have n2_ := Aside0.mk ((by rw [hg]; exact (below_size (by repeat (first | (with_reducible first | exact HB.out | apply below_alloc | apply pw_below_drewN | apply below_drew1) | exact HB.out))) : w.heap.size ≤ gb233)); have n3_ := Aside0.mk ((by rw [hg]; exact (below_size (by repeat (first | (with_reducible first | exact HB.out | apply below_alloc | apply pw_below_drewN | apply below_drew1) | exact HB.out))) : w.heap.size ≤ gb233)); clear HB; have HB := n0_; have BK233 := n1_; have GW233 := n2_; have GE233 := n3_; clear n0_ n1_ n2_ n3_; clear hb hbox hg) | ((with_reducible refine gate_callee (f := 39) rfl ?_); refine goesL_ (some 7) rfl rfl Try.func39 (by kernel_rfl) rfl #[.slice A0 l0.length c0] rfl (by (try simp only [List.map_toArray, List.map_cons, List.map_nil]); first | done | rfl | (simp only [List.length_drop, List.length_take]; rfl)) ?_; (with_reducible refine (spec_l1Open.calls _ _ l0 t234 t235 w _ ?side1 ?side2 ?side3 A2.out).mono ?_); (case side1 => repeat (first | (with_reducible first | exact HB.out | apply below_alloc | apply pw_below_drewN | apply below_drew1 | refine below_set ?_ GE233.out) | exact HB.out)); (case side2 => exact HR0.out); (case side3 => exact HC0.out); rintro e w6 ⟨g236, rfl, hi, hb, hb2⟩; refine ⟨_, rfl, ?_⟩; have n0_ := Aside0.mk (blk_below (g := gb233) (o := .cells #[.int .i64 0, .int .i64 0, .int .i64 0, .int .i64 0, .int .i64 0, .int .i64 0, .bool false, .int .i64 0] 29 (0, 0)) (by (with_reducible repeat (first | refine blk_drewN ?_ _ | refine blk_drew ?_ | refine blk_alloc ?_ _)); exact BK233.out) hb2); have n1_ := Aside0.mk (hb); have n2_ := Aside0.mk (hi); have n3_ := Aside0.mk (IsS58.ne_blk hi (blk_below (g := gb233) (o := .cells #[.int .i64 0, .int .i64 0, .int .i64 0, .int .i64 0, .int .i64 0, .int .i64 0, .bool false, .int .i64 0] 29 (0, 0)) (by (with_reducible repeat (first | refine blk_drewN ?_ _ | refine blk_drew ?_ | refine blk_alloc ?_ _)); exact BK233.out) hb2) (by decide)); have n4_ := Aside0.mk (Ne.symm (IsS58.ne_blk hi (blk_below (g := gb233) (o := .cells #[.int .i64 0, .int .i64 0, .int .i64 0, .int .i64 0, .int .i64 0, .int .i64 0, .bool false, .int .i64 0] 29 (0, 0)) (by (with_reducible repeat (first | refine blk_drewN ?_ _ | refine blk_drew ?_ | refine blk_alloc ?_ _)); exact BK233.out) hb2) (by decide))); clear BK233; clear HB; have BK233 := n0_; have HB := n1_; have HI236 := n2_; have NB236_233 := n3_; have NB233_236 := n4_; clear n0_ n1_ n2_ n3_ n4_; (try clear hb); (try clear hb2); (try clear hk); (try clear hi)) | ((with_reducible refine gate_callee (f := 40) rfl ?_); refine goesL_ (some 9) rfl rfl Try.func40 (by kernel_rfl) rfl #[.pointer (some ⟨g236, 0, none⟩)] rfl (by (try simp only [List.map_toArray, List.map_cons, List.map_nil]); first | done | rfl | (simp only [List.length_drop, List.length_take]; rfl)) ?_; (with_reducible refine (spec_l1Rd_date.calls k g236 t234 t235 t237 t238 t239 t240 t241 t242 t243 t244 t245 w _ ?side1 ?side2 A3.out).mono ?_); (case side1 => repeat (first | (with_reducible first | exact HI236.out | apply IsS58.alloc | apply IsS58.drewN | apply IsS58.drew | apply IsS58.set_1 | refine IsS58.far ?_ NB236_233.out _) | exact HI236.out)); (case side2 => repeat (first | (with_reducible first | exact HB.out | apply below_alloc | apply pw_below_drewN | apply below_drew1 | refine below_set ?_ (IsS58.ge HI236.out) | refine below_set ?_ GE233.out) | exact HB.out)); rintro e w7 ⟨rfl, hi, hb, hk⟩; refine ⟨_, rfl, ?_⟩; have n0_ := Aside0.mk (KeepBut.blk hk (g' := gb233) (o := .cells #[.int .i64 0, .int .i64 0, .int .i64 0, .int .i64 0, .int .i64 0, .int .i64 0, .bool false, .int .i64 0] 29 (0, 0)) (by (with_reducible repeat (first | refine blk_drewN ?_ _ | refine blk_drew ?_ | refine blk_alloc ?_ _)); exact BK233.out) NB233_236.out (by simp)); have n1_ := Aside0.mk (hb); have n2_ := Aside0.mk (hi); clear BK233; clear HB; clear HI236; have BK233 := n0_; have HB := n1_; have HI236 := n2_; clear n0_ n1_ n2_; (try clear hb); (try clear hb2); (try clear hk); (try clear hi)) | ((with_reducible refine gate_dst (N := 5) rfl ?_); refine box_event ?hg (N := 5) ?hd (cs := #[.int .i64 0, .int .i64 0, .int .i64 0, .int .i64 0, .int .i64 0, .int .i64 0, .bool false, .int .i64 0]) (t := 29) ?hr ?_; (case hd => rfl); (case hg => rfl); (case hr => first | (go_simp; done) | (go_simp; rfl)); intro gb246 hg w8 hbox hb; have n0_ := Aside0.mk (blk_below (g := gb233) (o := .cells #[.int .i64 0, .int .i64 0, .int .i64 0, .int .i64 0, .int .i64 0, .int .i64 0, .bool false, .int .i64 0] 29 (0, 0)) (by (with_reducible repeat (first | refine blk_drewN ?_ _ | refine blk_drew ?_ | refine blk_alloc ?_ _)); exact BK233.out) hb); have n1_ := Aside0.mk (IsS58.below (by repeat (first | (with_reducible first | exact HI236.out | apply IsS58.alloc | apply IsS58.drewN | apply IsS58.drew | apply IsS58.set_1 | refine IsS58.far ?_ NB236_233.out _) | exact HI236.out)) hb); have n2_ := Aside0.mk (below_step (by repeat (first | (with_reducible first | exact HB.out | apply below_alloc | apply pw_below_drewN | apply below_drew1 | refine below_set ?_ (IsS58.ge HI236.out) | refine below_set ?_ GE233.out) | exact HB.out)) hb); have n3_ := Aside0.mk (hbox); have n4_ := Aside0.mk ((by rw [hg]; exact (below_size (by repeat (first | (with_reducible first | exact HB.out | apply below_alloc | apply pw_below_drewN | apply below_drew1 | refine below_set ?_ (IsS58.ge HI236.out) | refine below_set ?_ GE233.out) | exact HB.out))) : w.heap.size ≤ gb246)); have n5_ := Aside0.mk ((by rw [hg]; exact (below_size (by repeat (first | (with_reducible first | exact HB.out | apply below_alloc | apply pw_below_drewN | apply below_drew1 | refine below_set ?_ (IsS58.ge HI236.out) | refine below_set ?_ GE233.out) | exact HB.out))) : w.heap.size ≤ gb246)); have n6_ := Aside0.mk ((by rw [hg]; exact Nat.ne_of_lt (blk_lt (g := gb233) (o := .cells #[.int .i64 0, .int .i64 0, .int .i64 0, .int .i64 0, .int .i64 0, .int .i64 0, .bool false, .int .i64 0] 29 (0, 0)) (by (with_reducible repeat (first | refine blk_drewN ?_ _ | refine blk_drew ?_ | refine blk_alloc ?_ _)); exact BK233.out)) : gb233 ≠ gb246)); have n7_ := Aside0.mk ((by rw [hg]; exact Nat.ne_of_gt (blk_lt (g := gb233) (o := .cells #[.int .i64 0, .int .i64 0, .int .i64 0, .int .i64 0, .int .i64 0, .int .i64 0, .bool false, .int .i64 0] 29 (0, 0)) (by (with_reducible repeat (first | refine blk_drewN ?_ _ | refine blk_drew ?_ | refine blk_alloc ?_ _)); exact BK233.out)) : gb246 ≠ gb233)); have n8_ := Aside0.mk ((by rw [hg]; exact Nat.ne_of_lt (IsS58.lt (show IsS58 w _ g236 t234 t245 from by repeat (first | (with_reducible first | exact HI236.out | apply IsS58.alloc | apply IsS58.drewN | apply IsS58.drew | apply IsS58.set_1 | refine IsS58.far ?_ NB236_233.out _) | exact HI236.out))) : g236 ≠ gb246)); have n9_ := Aside0.mk ((by rw [hg]; exact Nat.ne_of_gt (IsS58.lt (show IsS58 w _ g236 t234 t245 from by repeat (first | (with_reducible first | exact HI236.out | apply IsS58.alloc | apply IsS58.drewN | apply IsS58.drew | apply IsS58.set_1 | refine IsS58.far ?_ NB236_233.out _) | exact HI236.out))) : gb246 ≠ g236)); clear BK233; clear HI236; clear HB; have BK233 := n0_; have HI236 := n1_; have HB := n2_; have BK246 := n3_; have GW246 := n4_; have GE246 := n5_; have NB233_246 := n6_; have NB246_233 := n7_; have NB236_246 := n8_; have NB246_236 := n9_; clear n0_ n1_ n2_ n3_ n4_ n5_ n6_ n7_ n8_ n9_; clear hb hbox hg; have hnb9 := NB246_233.out; have hnc9 := NB233_246.out; have hnb10 := NB246_236.out; have hnc10 := NB236_246.out; have hcz11_0 : w8.cell? ⟨gb246, 0, none⟩ = some (.int .i64 0) := (blk_cell BK246.out 0).trans rfl; have hcz11_1 : w8.cell? ⟨gb246, 1, none⟩ = some (.int .i64 0) := (blk_cell BK246.out 1).trans rfl; have hcz11_2 : w8.cell? ⟨gb246, 2, none⟩ = some (.int .i64 0) := (blk_cell BK246.out 2).trans rfl; have hcz11_3 : w8.cell? ⟨gb246, 3, none⟩ = some (.int .i64 0) := (blk_cell BK246.out 3).trans rfl; have hcz11_4 : w8.cell? ⟨gb246, 4, none⟩ = some (.int .i64 0) := (blk_cell BK246.out 4).trans rfl; have hcz11_5 : w8.cell? ⟨gb246, 5, none⟩ = some (.int .i64 0) := (blk_cell BK246.out 5).trans rfl; have hcz11_6 : w8.cell? ⟨gb246, 6, none⟩ = some (.bool false) := (blk_cell BK246.out 6).trans rfl; have hcz11_7 : w8.cell? ⟨gb246, 7, none⟩ = some (.int .i64 0) := (blk_cell BK246.out 7).trans rfl; have hfz11_0 := blk_frozen BK246.out 0; have hfz11_1 := blk_frozen BK246.out 1; have hfz11_2 := blk_frozen BK246.out 2; have hfz11_3 := blk_frozen BK246.out 3; have hfz11_4 := blk_frozen BK246.out 4; have hfz11_5 := blk_frozen BK246.out 5; have hfz11_6 := blk_frozen BK246.out 6; have hfz11_7 := blk_frozen BK246.out 7) | ((with_reducible refine gate_store (t := 29) (p := 5) rfl ?_); refine store_event (t := 29) (p := 5) (v := ?vo_w12) (w1 := ((((((((w8.setCell ⟨gb246, 0, none⟩ (.int .i64 t237)).setCell ⟨gb246, 1, none⟩ (.int .i64 t238)).setCell ⟨gb246, 2, none⟩ (.int .i64 t239)).setCell ⟨gb246, 3, none⟩ (.int .i64 t240)).setCell ⟨gb246, 4, none⟩ (.int .i64 t241)).setCell ⟨gb246, 5, none⟩ (.int .i64 t242)).setCell ⟨gb246, 6, none⟩ (.bool t243)).setCell ⟨gb246, 7, none⟩ (.int .i64 t244))) ?hg ?ho ?hn ?hr ?_; (case ho => rfl); (case hg => rfl); (case hn => rfl); (case hr => first | (go_simp; done) | (go_simp; rfl)); intro w12 hw; have n0_ : Aside0 (w12.heap[gb233]? = some (.cells #[.int .i64 0, .int .i64 0, .int .i64 0, .int .i64 0, .int .i64 0, .int .i64 0, .bool false, .int .i64 0] 29 (0, 0))) := ⟨(by rw [hw]; exact (by (with_reducible repeat (first | refine blk_drewN ?_ _ | refine blk_drew ?_ | refine blk_alloc ?_ _)); refine blk_far ?_ NB233_246.out _; (with_reducible repeat (first | refine blk_drewN ?_ _ | refine blk_drew ?_ | refine blk_alloc ?_ _)); refine blk_far ?_ NB233_246.out _; (with_reducible repeat (first | refine blk_drewN ?_ _ | refine blk_drew ?_ | refine blk_alloc ?_ _)); refine blk_far ?_ NB233_246.out _; (with_reducible repeat (first | refine blk_drewN ?_ _ | refine blk_drew ?_ | refine blk_alloc ?_ _)); refine blk_far ?_ NB233_246.out _; (with_reducible repeat (first | refine blk_drewN ?_ _ | refine blk_drew ?_ | refine blk_alloc ?_ _)); refine blk_far ?_ NB233_246.out _; (with_reducible repeat (first | refine blk_drewN ?_ _ | refine blk_drew ?_ | refine blk_alloc ?_ _)); refine blk_far ?_ NB233_246.out _; (with_reducible repeat (first | refine blk_drewN ?_ _ | refine blk_drew ?_ | refine blk_alloc ?_ _)); refine blk_far ?_ NB233_246.out _; (with_reducible repeat (first | refine blk_drewN ?_ _ | refine blk_drew ?_ | refine blk_alloc ?_ _)); refine blk_far ?_ NB233_246.out _; (with_reducible repeat (first | refine blk_drewN ?_ _ | refine blk_drew ?_ | refine blk_alloc ?_ _)); exact BK233.out))⟩; have n1_ : Aside0 (w12.heap[gb246]? = some (.cells #[.int .i64 t237, .int .i64 t238, .int .i64 t239, .int .i64 t240, .int .i64 t241, .int .i64 t242, .bool t243, .int .i64 t244] 29 (0, 0))) := ⟨(by rw [hw]; exact (by (with_reducible repeat (first | refine blk_drewN ?_ _ | refine blk_drew ?_ | refine blk_alloc ?_ _)); refine blk_put (cs := #[.int .i64 t237, .int .i64 t238, .int .i64 t239, .int .i64 t240, .int .i64 t241, .int .i64 t242, .bool t243, .int .i64 0]) ?_ 7 _ rfl; (with_reducible repeat (first | refine blk_drewN ?_ _ | refine blk_drew ?_ | refine blk_alloc ?_ _)); refine blk_put (cs := #[.int .i64 t237, .int .i64 t238, .int .i64 t239, .int .i64 t240, .int .i64 t241, .int .i64 t242, .bool false, .int .i64 0]) ?_ 6 _ rfl; (with_reducible repeat (first | refine blk_drewN ?_ _ | refine blk_drew ?_ | refine blk_alloc ?_ _)); refine blk_put (cs := #[.int .i64 t237, .int .i64 t238, .int .i64 t239, .int .i64 t240, .int .i64 t241, .int .i64 0, .bool false, .int .i64 0]) ?_ 5 _ rfl; (with_reducible repeat (first | refine blk_drewN ?_ _ | refine blk_drew ?_ | refine blk_alloc ?_ _)); refine blk_put (cs := #[.int .i64 t237, .int .i64 t238, .int .i64 t239, .int .i64 t240, .int .i64 0, .int .i64 0, .bool false, .int .i64 0]) ?_ 4 _ rfl; (with_reducible repeat (first | refine blk_drewN ?_ _ | refine blk_drew ?_ | refine blk_alloc ?_ _)); refine blk_put (cs := #[.int .i64 t237, .int .i64 t238, .int .i64 t239, .int .i64 0, .int .i64 0, .int .i64 0, .bool false, .int .i64 0]) ?_ 3 _ rfl; (with_reducible repeat (first | refine blk_drewN ?_ _ | refine blk_drew ?_ | refine blk_alloc ?_ _)); refine blk_put (cs := #[.int .i64 t237, .int .i64 t238, .int .i64 0, .int .i64 0, .int .i64 0, .int .i64 0, .bool false, .int .i64 0]) ?_ 2 _ rfl; (with_reducible repeat (first | refine blk_drewN ?_ _ | refine blk_drew ?_ | refine blk_alloc ?_ _)); refine blk_put (cs := #[.int .i64 t237, .int .i64 0, .int .i64 0, .int .i64 0, .int .i64 0, .int .i64 0, .bool false, .int .i64 0]) ?_ 1 _ rfl; (with_reducible repeat (first | refine blk_drewN ?_ _ | refine blk_drew ?_ | refine blk_alloc ?_ _)); refine blk_put (cs := #[.int .i64 0, .int .i64 0, .int .i64 0, .int .i64 0, .int .i64 0, .int .i64 0, .bool false, .int .i64 0]) ?_ 0 _ rfl; (with_reducible repeat (first | refine blk_drewN ?_ _ | refine blk_drew ?_ | refine blk_alloc ?_ _)); exact BK246.out))⟩; have n2_ : Aside0 (IsS58 w w12 g236 t234 t245) := ⟨(by rw [hw]; exact (by repeat (first | (with_reducible first | exact HI236.out | apply IsS58.alloc | apply IsS58.drewN | apply IsS58.drew | apply IsS58.set_1 | refine IsS58.far ?_ NB236_233.out _ | refine IsS58.far ?_ NB236_246.out _) | exact HI236.out)))⟩; have n3_ : Aside0 (Below w.heap.size w w12) := ⟨(by rw [hw]; exact (by repeat (first | (with_reducible first | exact HB.out | apply below_alloc | apply pw_below_drewN | apply below_drew1 | refine below_set ?_ (IsS58.ge HI236.out) | refine below_set ?_ GE233.out | refine below_set ?_ GE246.out) | exact HB.out)))⟩; clear hw; clear BK233; clear BK246; clear HI236; clear HB; have BK233 := n0_; have BK246 := n1_; have HI236 := n2_; have HB := n3_; clear n0_ n1_ n2_ n3_))
 have n0_ := Aside0.mk (blk_drew BK233.out)
 have n1_ := Aside0.mk (blk_drew BK246.out)
 have n2_ := Aside0.mk (IsS58.drew HI236.out)
 have n3_ := Aside0.mk (below_drew1 HB.out)
 clear BK233
 clear BK246
 clear HI236
 clear HB
 have BK233 := n0_
 have BK246 := n1_
 have HI236 := n2_
 have HB := n3_
 clear n0_ n1_ n2_ n3_
 refine start_ (n := 5) (S := fun w' => w'.cell? ⟨gb246, 0, none⟩ = some (.int .i64 t237) ∧ w'.cell? ⟨gb246, 1, none⟩ = some (.int .i64 t238) ∧ w'.cell? ⟨gb246, 2, none⟩ = some (.int .i64 t239) ∧ w'.cell? ⟨gb246, 3, none⟩ = some (.int .i64 t240) ∧ w'.cell? ⟨gb246, 4, none⟩ = some (.int .i64 t241) ∧ w'.cell? ⟨gb246, 5, none⟩ = some (.int .i64 t242) ∧ w'.cell? ⟨gb246, 6, none⟩ = some (.bool t243) ∧ w'.cell? ⟨gb246, 7, none⟩ = some (.int .i64 t244)) (ds := []) #[false, false, false, false, false] (by kernel_rfl) rfl rfl ⟨(blk_cell BK246.out 0).trans rfl, (blk_cell BK246.out 1).trans rfl, (blk_cell BK246.out 2).trans rfl, (blk_cell BK246.out 3).trans rfl, (blk_cell BK246.out 4).trans rfl, (blk_cell BK246.out 5).trans rfl, (blk_cell BK246.out 6).trans rfl, (blk_cell BK246.out 7).trans rfl⟩ (fun hHeld => ?_)
 generalize w12.drew = w13 at BK233 BK246 HI236 HB hHeld ⊢
 refine pure_ (i := 1) (N := some 11) (v := ?_) (a' := ?_) #[false, true, false, false, false] rfl rfl (by kernel_rfl) (fun _ _ _ h => h) (Or.inl ⟨by rfl, ?_⟩) ?_ ?_
 rotate_left
 ·intro w'
  go_simp
  with_reducible rfl
 rotate_left
 ·simp only [Act.put, List.setIfInBounds_toArray, List.set_cons_zero, List.set_cons_succ, i64_w, i32_w]
  rfl
 refine take_ (i := 0) (N := some 10) (v := ?_) (a' := ?_) #[true, true, false, false, false] rfl rfl (by kernel_rfl) (fun _ _ _ h => h) (Or.inl ⟨by rfl, ?_⟩) hHeld ?_ ?_
 rotate_left
 ·rintro w' ⟨s0, s1, s2, s3, s4, s5, s6, s7⟩
  go_simp
  with_reducible rfl
 rotate_left
 ·simp only [Act.put, List.setIfInBounds_toArray, List.set_cons_zero, List.set_cons_succ, i64_w, i32_w]
  rfl
 refine one_ (i := 2) (N := some 12) #[true, true, true, false, false] rfl rfl (by kernel_rfl) (by decide) (fun K hK => ?_)
 refine goes_ Try.func45 (by kernel_rfl) rfl #[.pointer (some ⟨g236, 0, none⟩), .int .i64 (-840), .int .i64 840] (by rfl) rfl rfl (by (try simp only [List.map_toArray, List.map_cons, List.map_nil]); first | done | rfl | (simp only [List.length_drop, List.length_take]; rfl)) ?_
 with_reducible refine (spec_l1Rd_off.calls k g236 t234 t245 (-840) 840 t247 t248 w _ ?side1 ?side2 A4.out).mono ?_
 (case side1 => repeat (first | (with_reducible first | exact HI236.out | apply IsS58.alloc | apply IsS58.drewN | apply IsS58.drew | apply IsS58.set_1 | refine IsS58.far ?_ NB236_233.out _ | refine IsS58.far ?_ NB236_246.out _) | exact HI236.out))
 (case side2 => repeat (first | (with_reducible first | exact HB.out | apply below_alloc | apply pw_below_drewN | apply below_drew1 | refine below_set ?_ (IsS58.ge HI236.out) | refine below_set ?_ GE233.out | refine below_set ?_ GE246.out) | exact HB.out))
 rintro e w14 ⟨rfl, hi, hb, hk⟩
 refine ⟨_, rfl, ?_⟩
 have n0_ := Aside0.mk (KeepBut.blk hk (g' := gb233) (o := .cells #[.int .i64 0, .int .i64 0, .int .i64 0, .int .i64 0, .int .i64 0, .int .i64 0, .bool false, .int .i64 0] 29 (0, 0)) (by (with_reducible repeat (first | refine blk_drewN ?_ _ | refine blk_drew ?_ | refine blk_alloc ?_ _)); exact BK233.out) NB233_236.out (by simp))
 have n1_ := Aside0.mk (KeepBut.blk hk (g' := gb246) (o := .cells #[.int .i64 t237, .int .i64 t238, .int .i64 t239, .int .i64 t240, .int .i64 t241, .int .i64 t242, .bool t243, .int .i64 t244] 29 (0, 0)) (by (with_reducible repeat (first | refine blk_drewN ?_ _ | refine blk_drew ?_ | refine blk_alloc ?_ _)); exact BK246.out) NB246_236.out (by simp))
 have n2_ := Aside0.mk (hb)
 have n3_ := Aside0.mk (hi)
 clear BK233
 clear BK246
 clear HB
 clear HI236
 have BK233 := n0_
 have BK246 := n1_
 have HB := n2_
 have HI236 := n3_
 clear n0_ n1_ n2_ n3_
 (try clear hb)
 (try clear hb2)
 (try clear hk)
 (try clear hi)
 refine hK.out _ _ ⟨(blk_cell BK246.out 0).trans rfl, (blk_cell BK246.out 1).trans rfl, (blk_cell BK246.out 2).trans rfl, (blk_cell BK246.out 3).trans rfl, (blk_cell BK246.out 4).trans rfl, (blk_cell BK246.out 5).trans rfl, (blk_cell BK246.out 6).trans rfl, (blk_cell BK246.out 7).trans rfl⟩ (fun hHeld => ?_)
 clear hK K
 refine norm_ (a' := ?_) ?_ ?_
 rotate_left
 ·show Act.put _ (some 12) _ = _
  simp only [Act.put, List.setIfInBounds_toArray, List.set_cons_zero, List.set_cons_succ, i64_w, i32_w]
  rfl
 refine one_ (i := 3) (N := none) #[true, true, true, true, false] rfl rfl (by kernel_rfl) (by decide) (fun K hK => ?_)
 have hs15 : w14.cell? ⟨gb233, 0, none⟩ = some (.int .i64 0) := (blk_cell BK233.out 0).trans rfl
 have hfs15 := blk_frozen BK233.out 0
 have hns15_1 := NB246_233.out
 have hms15_1 := NB233_246.out
 have hs16 : w14.cell? ⟨gb233, 1, none⟩ = some (.int .i64 0) := (blk_cell BK233.out 1).trans rfl
 have hfs16 := blk_frozen BK233.out 1
 have hns16_1 := NB246_233.out
 have hms16_1 := NB233_246.out
 have hs17 : w14.cell? ⟨gb233, 2, none⟩ = some (.int .i64 0) := (blk_cell BK233.out 2).trans rfl
 have hfs17 := blk_frozen BK233.out 2
 have hns17_1 := NB246_233.out
 have hms17_1 := NB233_246.out
 have hs18 : w14.cell? ⟨gb233, 3, none⟩ = some (.int .i64 0) := (blk_cell BK233.out 3).trans rfl
 have hfs18 := blk_frozen BK233.out 3
 have hns18_1 := NB246_233.out
 have hms18_1 := NB233_246.out
 have hs19 : w14.cell? ⟨gb233, 4, none⟩ = some (.int .i64 0) := (blk_cell BK233.out 4).trans rfl
 have hfs19 := blk_frozen BK233.out 4
 have hns19_1 := NB246_233.out
 have hms19_1 := NB233_246.out
 have hs20 : w14.cell? ⟨gb233, 5, none⟩ = some (.int .i64 0) := (blk_cell BK233.out 5).trans rfl
 have hfs20 := blk_frozen BK233.out 5
 have hns20_1 := NB246_233.out
 have hms20_1 := NB233_246.out
 have hs21 : w14.cell? ⟨gb233, 6, none⟩ = some (.bool false) := (blk_cell BK233.out 6).trans rfl
 have hfs21 := blk_frozen BK233.out 6
 have hns21_1 := NB246_233.out
 have hms21_1 := NB233_246.out
 have hs22 : w14.cell? ⟨gb233, 7, none⟩ = some (.int .i64 0) := (blk_cell BK233.out 7).trans rfl
 have hfs22 := blk_frozen BK233.out 7
 have hns22_1 := NB246_233.out
 have hms22_1 := NB233_246.out
 refine skip_ (w1 := ?_) (by rfl) rfl ?_ ?_
 rotate_left
 ·go_simp
  rfl
 refine hK.out _ _ ⟨((cell_far (p := ⟨gb233, _, none⟩) NB246_233.out _).trans (((cell_far (p := ⟨gb233, _, none⟩) NB246_233.out _).trans (((cell_far (p := ⟨gb233, _, none⟩) NB246_233.out _).trans (((cell_far (p := ⟨gb233, _, none⟩) NB246_233.out _).trans (((cell_far (p := ⟨gb233, _, none⟩) NB246_233.out _).trans (((cell_far (p := ⟨gb233, _, none⟩) NB246_233.out _).trans (((cell_far (p := ⟨gb233, _, none⟩) NB246_233.out _).trans (((cell_far (p := ⟨gb233, _, none⟩) NB246_233.out _).trans (hHeld.1)))))))))))))))), ((cell_far (p := ⟨gb233, _, none⟩) NB246_233.out _).trans (((cell_far (p := ⟨gb233, _, none⟩) NB246_233.out _).trans (((cell_far (p := ⟨gb233, _, none⟩) NB246_233.out _).trans (((cell_far (p := ⟨gb233, _, none⟩) NB246_233.out _).trans (((cell_far (p := ⟨gb233, _, none⟩) NB246_233.out _).trans (((cell_far (p := ⟨gb233, _, none⟩) NB246_233.out _).trans (((cell_far (p := ⟨gb233, _, none⟩) NB246_233.out _).trans (((cell_far (p := ⟨gb233, _, none⟩) NB246_233.out _).trans (hHeld.2.1)))))))))))))))), ((cell_far (p := ⟨gb233, _, none⟩) NB246_233.out _).trans (((cell_far (p := ⟨gb233, _, none⟩) NB246_233.out _).trans (((cell_far (p := ⟨gb233, _, none⟩) NB246_233.out _).trans (((cell_far (p := ⟨gb233, _, none⟩) NB246_233.out _).trans (((cell_far (p := ⟨gb233, _, none⟩) NB246_233.out _).trans (((cell_far (p := ⟨gb233, _, none⟩) NB246_233.out _).trans (((cell_far (p := ⟨gb233, _, none⟩) NB246_233.out _).trans (((cell_far (p := ⟨gb233, _, none⟩) NB246_233.out _).trans (hHeld.2.2.1)))))))))))))))), ((cell_far (p := ⟨gb233, _, none⟩) NB246_233.out _).trans (((cell_far (p := ⟨gb233, _, none⟩) NB246_233.out _).trans (((cell_far (p := ⟨gb233, _, none⟩) NB246_233.out _).trans (((cell_far (p := ⟨gb233, _, none⟩) NB246_233.out _).trans (((cell_far (p := ⟨gb233, _, none⟩) NB246_233.out _).trans (((cell_far (p := ⟨gb233, _, none⟩) NB246_233.out _).trans (((cell_far (p := ⟨gb233, _, none⟩) NB246_233.out _).trans (((cell_far (p := ⟨gb233, _, none⟩) NB246_233.out _).trans (hHeld.2.2.2.1)))))))))))))))), ((cell_far (p := ⟨gb233, _, none⟩) NB246_233.out _).trans (((cell_far (p := ⟨gb233, _, none⟩) NB246_233.out _).trans (((cell_far (p := ⟨gb233, _, none⟩) NB246_233.out _).trans (((cell_far (p := ⟨gb233, _, none⟩) NB246_233.out _).trans (((cell_far (p := ⟨gb233, _, none⟩) NB246_233.out _).trans (((cell_far (p := ⟨gb233, _, none⟩) NB246_233.out _).trans (((cell_far (p := ⟨gb233, _, none⟩) NB246_233.out _).trans (((cell_far (p := ⟨gb233, _, none⟩) NB246_233.out _).trans (hHeld.2.2.2.2.1)))))))))))))))), ((cell_far (p := ⟨gb233, _, none⟩) NB246_233.out _).trans (((cell_far (p := ⟨gb233, _, none⟩) NB246_233.out _).trans (((cell_far (p := ⟨gb233, _, none⟩) NB246_233.out _).trans (((cell_far (p := ⟨gb233, _, none⟩) NB246_233.out _).trans (((cell_far (p := ⟨gb233, _, none⟩) NB246_233.out _).trans (((cell_far (p := ⟨gb233, _, none⟩) NB246_233.out _).trans (((cell_far (p := ⟨gb233, _, none⟩) NB246_233.out _).trans (((cell_far (p := ⟨gb233, _, none⟩) NB246_233.out _).trans (hHeld.2.2.2.2.2.1)))))))))))))))), ((cell_far (p := ⟨gb233, _, none⟩) NB246_233.out _).trans (((cell_far (p := ⟨gb233, _, none⟩) NB246_233.out _).trans (((cell_far (p := ⟨gb233, _, none⟩) NB246_233.out _).trans (((cell_far (p := ⟨gb233, _, none⟩) NB246_233.out _).trans (((cell_far (p := ⟨gb233, _, none⟩) NB246_233.out _).trans (((cell_far (p := ⟨gb233, _, none⟩) NB246_233.out _).trans (((cell_far (p := ⟨gb233, _, none⟩) NB246_233.out _).trans (((cell_far (p := ⟨gb233, _, none⟩) NB246_233.out _).trans (hHeld.2.2.2.2.2.2.1)))))))))))))))), ((cell_far (p := ⟨gb233, _, none⟩) NB246_233.out _).trans (((cell_far (p := ⟨gb233, _, none⟩) NB246_233.out _).trans (((cell_far (p := ⟨gb233, _, none⟩) NB246_233.out _).trans (((cell_far (p := ⟨gb233, _, none⟩) NB246_233.out _).trans (((cell_far (p := ⟨gb233, _, none⟩) NB246_233.out _).trans (((cell_far (p := ⟨gb233, _, none⟩) NB246_233.out _).trans (((cell_far (p := ⟨gb233, _, none⟩) NB246_233.out _).trans (((cell_far (p := ⟨gb233, _, none⟩) NB246_233.out _).trans (hHeld.2.2.2.2.2.2.2))))))))))))))))⟩ (fun hHeld => ?_)
 clear hK K
 refine pure_ (i := 4) (N := some 3) (v := ?_) (a' := ?_) #[true, true, true, true, true] rfl rfl (by kernel_rfl) (fun _ _ _ h => h) (Or.inl ⟨by rfl, ?_⟩) ?_ ?_
 rotate_left
 ·intro w'
  go_simp
  with_reducible rfl
 rotate_left
 ·simp only [Act.put, List.setIfInBounds_toArray, List.set_cons_zero, List.set_cons_succ, i64_w, i32_w]
  rfl
 refine done_ (by kernel_rfl) ?_
 have n0_ : Aside0 (((((((((w14.setCell ⟨gb233, 0, none⟩ (.int .i64 t237)).setCell ⟨gb233, 1, none⟩ (.int .i64 t238)).setCell ⟨gb233, 2, none⟩ (.int .i64 t239)).setCell ⟨gb233, 3, none⟩ (.int .i64 t240)).setCell ⟨gb233, 4, none⟩ (.int .i64 t241)).setCell ⟨gb233, 5, none⟩ (.int .i64 t242)).setCell ⟨gb233, 6, none⟩ (.bool t243)).setCell ⟨gb233, 7, none⟩ (.int .i64 t244)).heap[gb233]? = some (.cells #[.int .i64 t237, .int .i64 t238, .int .i64 t239, .int .i64 t240, .int .i64 t241, .int .i64 t242, .bool t243, .int .i64 t244] 29 (0, 0))) := ⟨by (with_reducible repeat (first | refine blk_drewN ?_ _ | refine blk_drew ?_ | refine blk_alloc ?_ _)); refine blk_put (cs := #[.int .i64 t237, .int .i64 t238, .int .i64 t239, .int .i64 t240, .int .i64 t241, .int .i64 t242, .bool t243, .int .i64 0]) ?_ 7 _ rfl; (with_reducible repeat (first | refine blk_drewN ?_ _ | refine blk_drew ?_ | refine blk_alloc ?_ _)); refine blk_put (cs := #[.int .i64 t237, .int .i64 t238, .int .i64 t239, .int .i64 t240, .int .i64 t241, .int .i64 t242, .bool false, .int .i64 0]) ?_ 6 _ rfl; (with_reducible repeat (first | refine blk_drewN ?_ _ | refine blk_drew ?_ | refine blk_alloc ?_ _)); refine blk_put (cs := #[.int .i64 t237, .int .i64 t238, .int .i64 t239, .int .i64 t240, .int .i64 t241, .int .i64 0, .bool false, .int .i64 0]) ?_ 5 _ rfl; (with_reducible repeat (first | refine blk_drewN ?_ _ | refine blk_drew ?_ | refine blk_alloc ?_ _)); refine blk_put (cs := #[.int .i64 t237, .int .i64 t238, .int .i64 t239, .int .i64 t240, .int .i64 0, .int .i64 0, .bool false, .int .i64 0]) ?_ 4 _ rfl; (with_reducible repeat (first | refine blk_drewN ?_ _ | refine blk_drew ?_ | refine blk_alloc ?_ _)); refine blk_put (cs := #[.int .i64 t237, .int .i64 t238, .int .i64 t239, .int .i64 0, .int .i64 0, .int .i64 0, .bool false, .int .i64 0]) ?_ 3 _ rfl; (with_reducible repeat (first | refine blk_drewN ?_ _ | refine blk_drew ?_ | refine blk_alloc ?_ _)); refine blk_put (cs := #[.int .i64 t237, .int .i64 t238, .int .i64 0, .int .i64 0, .int .i64 0, .int .i64 0, .bool false, .int .i64 0]) ?_ 2 _ rfl; (with_reducible repeat (first | refine blk_drewN ?_ _ | refine blk_drew ?_ | refine blk_alloc ?_ _)); refine blk_put (cs := #[.int .i64 t237, .int .i64 0, .int .i64 0, .int .i64 0, .int .i64 0, .int .i64 0, .bool false, .int .i64 0]) ?_ 1 _ rfl; (with_reducible repeat (first | refine blk_drewN ?_ _ | refine blk_drew ?_ | refine blk_alloc ?_ _)); refine blk_put (cs := #[.int .i64 0, .int .i64 0, .int .i64 0, .int .i64 0, .int .i64 0, .int .i64 0, .bool false, .int .i64 0]) ?_ 0 _ rfl; (with_reducible repeat (first | refine blk_drewN ?_ _ | refine blk_drew ?_ | refine blk_alloc ?_ _)); exact BK233.out⟩
 have n1_ : Aside0 (((((((((w14.setCell ⟨gb233, 0, none⟩ (.int .i64 t237)).setCell ⟨gb233, 1, none⟩ (.int .i64 t238)).setCell ⟨gb233, 2, none⟩ (.int .i64 t239)).setCell ⟨gb233, 3, none⟩ (.int .i64 t240)).setCell ⟨gb233, 4, none⟩ (.int .i64 t241)).setCell ⟨gb233, 5, none⟩ (.int .i64 t242)).setCell ⟨gb233, 6, none⟩ (.bool t243)).setCell ⟨gb233, 7, none⟩ (.int .i64 t244)).heap[gb246]? = some (.cells #[.int .i64 t237, .int .i64 t238, .int .i64 t239, .int .i64 t240, .int .i64 t241, .int .i64 t242, .bool t243, .int .i64 t244] 29 (0, 0))) := ⟨by (with_reducible repeat (first | refine blk_drewN ?_ _ | refine blk_drew ?_ | refine blk_alloc ?_ _)); refine blk_far ?_ NB246_233.out _; (with_reducible repeat (first | refine blk_drewN ?_ _ | refine blk_drew ?_ | refine blk_alloc ?_ _)); refine blk_far ?_ NB246_233.out _; (with_reducible repeat (first | refine blk_drewN ?_ _ | refine blk_drew ?_ | refine blk_alloc ?_ _)); refine blk_far ?_ NB246_233.out _; (with_reducible repeat (first | refine blk_drewN ?_ _ | refine blk_drew ?_ | refine blk_alloc ?_ _)); refine blk_far ?_ NB246_233.out _; (with_reducible repeat (first | refine blk_drewN ?_ _ | refine blk_drew ?_ | refine blk_alloc ?_ _)); refine blk_far ?_ NB246_233.out _; (with_reducible repeat (first | refine blk_drewN ?_ _ | refine blk_drew ?_ | refine blk_alloc ?_ _)); refine blk_far ?_ NB246_233.out _; (with_reducible repeat (first | refine blk_drewN ?_ _ | refine blk_drew ?_ | refine blk_alloc ?_ _)); refine blk_far ?_ NB246_233.out _; (with_reducible repeat (first | refine blk_drewN ?_ _ | refine blk_drew ?_ | refine blk_alloc ?_ _)); refine blk_far ?_ NB246_233.out _; (with_reducible repeat (first | refine blk_drewN ?_ _ | refine blk_drew ?_ | refine blk_alloc ?_ _)); exact BK246.out⟩
 have n2_ : Aside0 (IsS58 w ((((((((w14.setCell ⟨gb233, 0, none⟩ (.int .i64 t237)).setCell ⟨gb233, 1, none⟩ (.int .i64 t238)).setCell ⟨gb233, 2, none⟩ (.int .i64 t239)).setCell ⟨gb233, 3, none⟩ (.int .i64 t240)).setCell ⟨gb233, 4, none⟩ (.int .i64 t241)).setCell ⟨gb233, 5, none⟩ (.int .i64 t242)).setCell ⟨gb233, 6, none⟩ (.bool t243)).setCell ⟨gb233, 7, none⟩ (.int .i64 t244)) g236 t234 t248) := ⟨by repeat (first | (with_reducible first | exact HI236.out | apply IsS58.alloc | apply IsS58.drewN | apply IsS58.drew | apply IsS58.set_1 | refine IsS58.far ?_ NB236_233.out _ | refine IsS58.far ?_ NB236_246.out _) | exact HI236.out)⟩
 have n3_ : Aside0 (Below w.heap.size w ((((((((w14.setCell ⟨gb233, 0, none⟩ (.int .i64 t237)).setCell ⟨gb233, 1, none⟩ (.int .i64 t238)).setCell ⟨gb233, 2, none⟩ (.int .i64 t239)).setCell ⟨gb233, 3, none⟩ (.int .i64 t240)).setCell ⟨gb233, 4, none⟩ (.int .i64 t241)).setCell ⟨gb233, 5, none⟩ (.int .i64 t242)).setCell ⟨gb233, 6, none⟩ (.bool t243)).setCell ⟨gb233, 7, none⟩ (.int .i64 t244))) := ⟨by repeat (first | (with_reducible first | exact HB.out | apply below_alloc | apply pw_below_drewN | apply below_drew1 | refine below_set ?_ (IsS58.ge HI236.out) | refine below_set ?_ GE233.out | refine below_set ?_ GE246.out) | exact HB.out)⟩
 (try clear BK233)
 (try clear BK246)
 (try clear HI236)
 (try clear HB)
 generalize ((((((((w14.setCell ⟨gb233, 0, none⟩ (.int .i64 t237)).setCell ⟨gb233, 1, none⟩ (.int .i64 t238)).setCell ⟨gb233, 2, none⟩ (.int .i64 t239)).setCell ⟨gb233, 3, none⟩ (.int .i64 t240)).setCell ⟨gb233, 4, none⟩ (.int .i64 t241)).setCell ⟨gb233, 5, none⟩ (.int .i64 t242)).setCell ⟨gb233, 6, none⟩ (.bool t243)).setCell ⟨gb233, 7, none⟩ (.int .i64 t244)) = w23 at n0_ n1_ n2_ n3_ ⊢
 have BK233 := n0_
 have BK246 := n1_
 have HI236 := n2_
 have HB := n3_
 clear n0_ n1_ n2_ n3_
 try go_wp2
 refine bodyPost_ret (results_ct rfl _ _ gb233 29 #[.int .i64 t237, .int .i64 t238, .int .i64 t239, .int .i64 t240, .int .i64 t241, .int .i64 t242, .bool t243, .int .i64 t244] (0, 0) _ rfl (by (with_reducible repeat (first | refine blk_drewN ?_ _ | refine blk_drew ?_ | refine blk_alloc ?_ _)); exact BK233.out) Try.underlying29 rfl (by kernel_rfl)) rfl ?_
 exact ⟨by first | rfl | (simp [*] <;> rfl), by repeat (first | (with_reducible first | exact HB.out | apply below_alloc | apply pw_below_drewN | apply below_drew1 | refine below_set ?_ (IsS58.ge HI236.out) | refine below_set ?_ GE233.out | refine below_set ?_ GE246.out) | exact HB.out)⟩

end Go.Proofs.Ytdfopjmokbcnlaa.PF
