-- Printed by this session's pdrive.py over the kit's printer.
import Derived.Test.YtomfhenoblfckaaPKx0
import Derived.Test.YtomfhenoblfckaaPKx6
namespace Go.Proofs.Ytomfhenoblfckaa.PK
open Go.RowKit Go.Proofs.YtomfhenoblfckaaW.PrintWords Go.Proofs.YtomfhenoblfckaaW.PrintLast Go.Proofs.YtomfhenoblfckaaW.PrintMore Go.Proofs.YtomfhenoblfckaaW.WordsB
attribute [local go_sem] max2_int min2_int max_two min_two max_three min_three max_four min_four   -- for this text's walks alone
set_option linter.unusedVariables false
set_option linter.unusedSimpArgs false

/-! ### spec_DrawClassHas: function 25 -/
def spec_DrawClassHas.l0 : Nat → Int → List Int → Int → Int → Bool → List (S68) → Int → Int → Int → Int → Option (Int × Bool × (List (S68)) × Int × Int × Int × Int × Int)
 | 0, _, _, _, _, _, _, _, _, _, _ => none
 | k + 1, x6, x217000, x217001, x220000, x220001, x220002, x220003, x220004, x220005, x220006 => if x6 > 0 then ((spec_l1Rd_below.f x217000 x217001 20).bind fun bt222 => ((spec_l1Rd_below.f x217000 bt222.2 6).bind fun bt224 => (if x220002.length < 8796093022208 then (spec_DrawClassHas.l0 k (wrap64 (x6 - 1)) x217000 bt224.2 x220000 x220001 (x220002 ++ [(⟨wrap64 (90 + bt222.1), wrap64 ((wrap64 (90 + bt222.1)) + bt224.1)⟩ : S68)]) x220003 x220004 x220005 x220006) else (none)))) else ((spec_l1Rd_once.f x217000 x217001 20).bind fun bt229 => (if bt229.1 = true then ((spec_l1Rd_off.f k x217000 bt229.2 1 5).bind fun bt231 => ((spec_l1Rd_off.f k x217000 bt231.2 88 120).bind fun bt233 => (some (bt231.1, x220001, x220002, x220003, x220004, x220005, x220006, bt233.1)))) else ((spec_l1Rd_off.f k x217000 bt229.2 88 120).bind fun bt235 => (some (x220000, x220001, x220002, x220003, x220004, x220005, x220006, bt235.1)))))
def spec_DrawClassHas.f (k : Nat) (l0 : List Int) : Option (Int × Bool × (List (S68)) × Int × Int × Int × Int × Int) := (spec_l1Open.f l0).bind fun bt214 => ((spec_l1Rd_once.f bt214.1 bt214.2 3).bind fun bt217 => ((spec_l1Rd_below.f bt214.1 bt217.2 3).bind fun bt220 => (spec_DrawClassHas.l0 k (wrap64 (1 + bt220.1)) bt214.1 bt220.2 2 bt217.1 ([] : List (S68)) 0 0 0 0)))
theorem spec_DrawClassHas.mono_l : ∀ k, (∀ y0 y1 y2 y3 y4 y5 y6 y7 y8 y9, LeO (spec_DrawClassHas.l0 k y0 y1 y2 y3 y4 y5 y6 y7 y8 y9) (spec_DrawClassHas.l0 (k + 1) y0 y1 y2 y3 y4 y5 y6 y7 y8 y9))
 | 0 => fun _ _ _ _ _ _ _ _ _ _ r h => by simp [spec_DrawClassHas.l0] at h
 | k + 1 => by
  have ih0 := spec_DrawClassHas.mono_l k
  ·intro y0 y1 y2 y3 y4 y5 y6 y7 y8 y9
   unfold spec_DrawClassHas.l0
   repeat' first
   | (with_reducible exact ih0 _ _ _ _ _ _ _ _ _ _)
   | (with_reducible exact spec_l1Rd_off.mono _ _ _ _ _)
   | (with_reducible exact LeO.refl _)
   | (with_reducible exact LeO.none _)
   | (with_reducible refine LeO.ite ?_ ?_)
   | (with_reducible refine LeO.bind ?_ (fun _ => ?_))
   | exact ih0 _ _ _ _ _ _ _ _ _ _
   | exact spec_l1Rd_off.mono _ _ _ _ _
   | exact LeO.none _
   | refine LeO.ite ?_ ?_
   | refine LeO.bind ?_ (fun _ => ?_)
theorem spec_DrawClassHas.mono : ∀ a0 k, LeO (spec_DrawClassHas.f k a0) (spec_DrawClassHas.f (k + 1) a0) := by
 intro a0 k
 have ih0 := spec_DrawClassHas.mono_l k
 unfold spec_DrawClassHas.f
 repeat' first
   | (with_reducible exact ih0 _ _ _ _ _ _ _ _ _ _)
   | (with_reducible exact spec_l1Rd_off.mono _ _ _ _ _)
   | (with_reducible exact LeO.refl _)
   | (with_reducible exact LeO.none _)
   | (with_reducible refine LeO.ite ?_ ?_)
   | (with_reducible refine LeO.bind ?_ (fun _ => ?_))
   | exact ih0 _ _ _ _ _ _ _ _ _ _
   | exact spec_l1Rd_off.mono _ _ _ _ _
   | exact LeO.none _
   | refine LeO.ite ?_ ?_
   | refine LeO.bind ?_ (fun _ => ?_)
def spec_DrawClassHas.T7 : Bool × List (List Nat × List Nat) := (true, [([], []), ([0], [0]), ([], []), ([], []), ([], []), ([4], [4]), ([3, 5], [3, 5]), ([2, 6], [2, 6]), ([7], [7]), ([1, 8, 5], [1, 8]), ([0, 1, 2, 3, 4, 5, 6, 7, 8, 9], []), ([10, 9, 9, 0, 1, 2, 3, 4, 5, 6, 7, 8, 9], [9, 10])])
def spec_DrawClassHas.B7 : List Nat := [0, 1, 0, 0, 0, 16, 56, 124, 252, 511, 1023, 2047]
theorem spec_DrawClassHas.tab7 : rtab .any (opsOf Try.f25 7) = spec_DrawClassHas.T7 := by kernel_rfl
theorem spec_DrawClassHas.bits7 : waitsOk spec_DrawClassHas.T7.2 spec_DrawClassHas.B7 = true := by kernel_rfl
set_option maxHeartbeats 8000000 in
set_option maxRecDepth 100000 in
theorem spec_DrawClassHas.calls (k : Nat) (A0 : Option Addr) (c0 : Nat) (l0 : List Int) (r1 : Int) (r2 : Bool) (r3 : List (S68)) (r4 : Int) (r5 : Int) (r6 : Int) (r7 : Int) (r8 : Int) (w : World) (hr0 : Kd.C (Kd.int .u8) w A0 l0.length l0) (hc0 : l0.length ≤ c0) (h : spec_DrawClassHas.f k l0 = some (r1, r2, r3, r4, r5, r6, r7, r8)) :
  Calls Try.prog 25 #[.slice A0 l0.length c0] w fun e w' => ∃ v2_ : Value, e = .returned (.tuple #[.agg #[.int .i64 r1, .bool r2, v2_, .int .i64 r4, .int .i64 r5, .int .i64 r6, .int .i64 r7], .int .i64 r8]) ∧ Kd.R k68 68 w' w.heap.size (fun _ => True) v2_ r3 ∧ Below w.heap.size w w' := by
 have hu41 := Try.underlying41
 have hu68 := Try.underlying68
 have HR0 := Aside0.mk hr0
 have HC0 := Aside0.mk hc0
 clear hr0 hc0
 have HB := Aside0.mk (Below.refl w.heap.size w)
 have H : ((spec_l1Open.f l0).bind fun bt214 => ((spec_l1Rd_once.f bt214.1 bt214.2 3).bind fun bt217 => ((spec_l1Rd_below.f bt214.1 bt217.2 3).bind fun bt220 => (spec_DrawClassHas.l0 k (wrap64 (1 + bt220.1)) bt214.1 bt220.2 2 bt217.1 ([] : List (S68)) 0 0 0 0)))) = some (r1, r2, r3, r4, r5, r6, r7, r8) := h
 clear h
 replace H := Option.bind_eq_some_iff.mp H
 obtain ⟨⟨t214, t215⟩, A20, H⟩ := H
 replace H : ((spec_l1Rd_once.f t214 t215 3).bind fun bt217 => ((spec_l1Rd_below.f t214 bt217.2 3).bind fun bt220 => (spec_DrawClassHas.l0 k (wrap64 (1 + bt220.1)) t214 bt220.2 2 bt217.1 ([] : List (S68)) 0 0 0 0))) = some (r1, r2, r3, r4, r5, r6, r7, r8) := H
 have A2 := Aside0.mk A20
 clear A20
 replace H := Option.bind_eq_some_iff.mp H
 obtain ⟨⟨t217, t218⟩, A30, H⟩ := H
 replace H : ((spec_l1Rd_below.f t214 t218 3).bind fun bt220 => (spec_DrawClassHas.l0 k (wrap64 (1 + bt220.1)) t214 bt220.2 2 t217 ([] : List (S68)) 0 0 0 0)) = some (r1, r2, r3, r4, r5, r6, r7, r8) := H
 have A3 := Aside0.mk A30
 clear A30
 replace H := Option.bind_eq_some_iff.mp H
 obtain ⟨⟨t220, t221⟩, A40, H⟩ := H
 replace H : (spec_DrawClassHas.l0 k (wrap64 (1 + t220)) t214 t221 2 t217 ([] : List (S68)) 0 0 0 0) = some (r1, r2, r3, r4, r5, r6, r7, r8) := H
 have A4 := Aside0.mk A40
 clear A40
 have H' := Aside0.mk H
 clear H
 go_enter Try.func25, Try.ntmps25
 go_wp2_with (first | ((with_reducible refine gate_dst (N := 2) rfl ?_); refine box_event ?hg (N := 2) ?hd (cs := #[.int .i64 0, .bool false, .slice none 0 0, .int .i64 0, .int .i64 0, .int .i64 0, .int .i64 0]) (t := 41) ?hr ?_; (case hd => rfl); (case hg => rfl); (case hr => first | (go_simp; done) | (go_simp; rfl)); intro gb213 hg w5 hbox hb; have n0_ := Aside0.mk (below_step (by repeat (first | (with_reducible first | exact HB.out | apply below_alloc | apply pw_below_drewN | apply below_drew1) | exact HB.out)) hb); have n1_ := Aside0.mk (hbox); have n2_ := Aside0.mk ((by rw [hg]; exact (below_size (by repeat (first | (with_reducible first | exact HB.out | apply below_alloc | apply pw_below_drewN | apply below_drew1) | exact HB.out))) : w.heap.size ≤ gb213)); have n3_ := Aside0.mk ((by rw [hg]; exact (below_size (by repeat (first | (with_reducible first | exact HB.out | apply below_alloc | apply pw_below_drewN | apply below_drew1) | exact HB.out))) : w.heap.size ≤ gb213)); clear HB; have HB := n0_; have BK213 := n1_; have GW213 := n2_; have GE213 := n3_; clear n0_ n1_ n2_ n3_; clear hb hbox hg) | ((with_reducible refine gate_callee (f := 39) rfl ?_); refine goesL_ (some 9) rfl rfl Try.func39 (by kernel_rfl) rfl #[.slice A0 l0.length c0] rfl (by (try simp only [List.map_toArray, List.map_cons, List.map_nil]); first | done | rfl | (simp only [List.length_drop, List.length_take]; rfl)) ?_; (with_reducible refine (spec_l1Open.calls _ _ l0 t214 t215 w _ ?side1 ?side2 ?side3 A2.out).mono ?_); (case side1 => repeat (first | (with_reducible first | exact HB.out | apply below_alloc | apply pw_below_drewN | apply below_drew1 | refine below_set ?_ GE213.out) | exact HB.out)); (case side2 => exact HR0.out); (case side3 => exact HC0.out); rintro e w6 ⟨g216, rfl, hi, hb, hb2⟩; refine ⟨_, rfl, ?_⟩; have n0_ := Aside0.mk (blk_below (g := gb213) (o := .cells #[.int .i64 0, .bool false, .slice none 0 0, .int .i64 0, .int .i64 0, .int .i64 0, .int .i64 0] 41 (0, 0)) (by (with_reducible repeat (first | refine blk_drewN ?_ _ | refine blk_drew ?_ | refine blk_alloc ?_ _)); exact BK213.out) hb2); have n1_ := Aside0.mk (hb); have n2_ := Aside0.mk (hi); have n3_ := Aside0.mk (IsS79.ne_blk hi (blk_below (g := gb213) (o := .cells #[.int .i64 0, .bool false, .slice none 0 0, .int .i64 0, .int .i64 0, .int .i64 0, .int .i64 0] 41 (0, 0)) (by (with_reducible repeat (first | refine blk_drewN ?_ _ | refine blk_drew ?_ | refine blk_alloc ?_ _)); exact BK213.out) hb2) (by decide)); have n4_ := Aside0.mk (Ne.symm (IsS79.ne_blk hi (blk_below (g := gb213) (o := .cells #[.int .i64 0, .bool false, .slice none 0 0, .int .i64 0, .int .i64 0, .int .i64 0, .int .i64 0] 41 (0, 0)) (by (with_reducible repeat (first | refine blk_drewN ?_ _ | refine blk_drew ?_ | refine blk_alloc ?_ _)); exact BK213.out) hb2) (by decide))); clear BK213; clear HB; have BK213 := n0_; have HB := n1_; have HI216 := n2_; have NB216_213 := n3_; have NB213_216 := n4_; clear n0_ n1_ n2_ n3_ n4_; (try clear hb); (try clear hb2); (try clear hk); (try clear hi)) | ((with_reducible refine gate_callee (f := 41) rfl ?_); refine goesL_ (some 11) rfl rfl Try.func41 (by kernel_rfl) rfl #[.pointer (some ⟨g216, 0, none⟩), .int .i64 3] rfl (by (try simp only [List.map_toArray, List.map_cons, List.map_nil]); first | done | rfl | (simp only [List.length_drop, List.length_take]; rfl)) ?_; (with_reducible refine (spec_l1Rd_once.calls g216 t214 t215 3 t217 t218 w _ ?side1 ?side2 A3.out).mono ?_); (case side1 => repeat (first | (with_reducible first | exact HI216.out | apply IsS79.alloc | apply IsS79.drewN | apply IsS79.drew | apply IsS79.set_1 | refine IsS79.far ?_ NB216_213.out _) | exact HI216.out)); (case side2 => repeat (first | (with_reducible first | exact HB.out | apply below_alloc | apply pw_below_drewN | apply below_drew1 | refine below_set ?_ (IsS79.ge HI216.out) | refine below_set ?_ GE213.out) | exact HB.out)); rintro e w7 ⟨rfl, hi, hb, hk⟩; refine ⟨_, rfl, ?_⟩; have n0_ := Aside0.mk (KeepBut.blk hk (g' := gb213) (o := .cells #[.int .i64 0, .bool false, .slice none 0 0, .int .i64 0, .int .i64 0, .int .i64 0, .int .i64 0] 41 (0, 0)) (by (with_reducible repeat (first | refine blk_drewN ?_ _ | refine blk_drew ?_ | refine blk_alloc ?_ _)); exact BK213.out) NB213_216.out (by simp)); have n1_ := Aside0.mk (hb); have n2_ := Aside0.mk (hi); clear BK213; clear HB; clear HI216; have BK213 := n0_; have HB := n1_; have HI216 := n2_; clear n0_ n1_ n2_; (try clear hb); (try clear hb2); (try clear hk); (try clear hi)) | ((with_reducible refine gate_dst (N := 5) rfl ?_); refine box_event ?hg (N := 5) ?hd (cs := #[.int .i64 0, .bool false, .slice none 0 0, .int .i64 0, .int .i64 0, .int .i64 0, .int .i64 0]) (t := 41) ?hr ?_; (case hd => rfl); (case hg => rfl); (case hr => first | (go_simp; done) | (go_simp; rfl)); intro gb219 hg w8 hbox hb; have n0_ := Aside0.mk (blk_below (g := gb213) (o := .cells #[.int .i64 0, .bool false, .slice none 0 0, .int .i64 0, .int .i64 0, .int .i64 0, .int .i64 0] 41 (0, 0)) (by (with_reducible repeat (first | refine blk_drewN ?_ _ | refine blk_drew ?_ | refine blk_alloc ?_ _)); exact BK213.out) hb); have n1_ := Aside0.mk (IsS79.below (by repeat (first | (with_reducible first | exact HI216.out | apply IsS79.alloc | apply IsS79.drewN | apply IsS79.drew | apply IsS79.set_1 | refine IsS79.far ?_ NB216_213.out _) | exact HI216.out)) hb); have n2_ := Aside0.mk (below_step (by repeat (first | (with_reducible first | exact HB.out | apply below_alloc | apply pw_below_drewN | apply below_drew1 | refine below_set ?_ (IsS79.ge HI216.out) | refine below_set ?_ GE213.out) | exact HB.out)) hb); have n3_ := Aside0.mk (hbox); have n4_ := Aside0.mk ((by rw [hg]; exact (below_size (by repeat (first | (with_reducible first | exact HB.out | apply below_alloc | apply pw_below_drewN | apply below_drew1 | refine below_set ?_ (IsS79.ge HI216.out) | refine below_set ?_ GE213.out) | exact HB.out))) : w.heap.size ≤ gb219)); have n5_ := Aside0.mk ((by rw [hg]; exact (below_size (by repeat (first | (with_reducible first | exact HB.out | apply below_alloc | apply pw_below_drewN | apply below_drew1 | refine below_set ?_ (IsS79.ge HI216.out) | refine below_set ?_ GE213.out) | exact HB.out))) : w.heap.size ≤ gb219)); have n6_ := Aside0.mk ((by rw [hg]; exact Nat.ne_of_lt (blk_lt (g := gb213) (o := .cells #[.int .i64 0, .bool false, .slice none 0 0, .int .i64 0, .int .i64 0, .int .i64 0, .int .i64 0] 41 (0, 0)) (by (with_reducible repeat (first | refine blk_drewN ?_ _ | refine blk_drew ?_ | refine blk_alloc ?_ _)); exact BK213.out)) : gb213 ≠ gb219)); have n7_ := Aside0.mk ((by rw [hg]; exact Nat.ne_of_gt (blk_lt (g := gb213) (o := .cells #[.int .i64 0, .bool false, .slice none 0 0, .int .i64 0, .int .i64 0, .int .i64 0, .int .i64 0] 41 (0, 0)) (by (with_reducible repeat (first | refine blk_drewN ?_ _ | refine blk_drew ?_ | refine blk_alloc ?_ _)); exact BK213.out)) : gb219 ≠ gb213)); have n8_ := Aside0.mk ((by rw [hg]; exact Nat.ne_of_lt (IsS79.lt (show IsS79 w _ g216 t214 t218 from by repeat (first | (with_reducible first | exact HI216.out | apply IsS79.alloc | apply IsS79.drewN | apply IsS79.drew | apply IsS79.set_1 | refine IsS79.far ?_ NB216_213.out _) | exact HI216.out))) : g216 ≠ gb219)); have n9_ := Aside0.mk ((by rw [hg]; exact Nat.ne_of_gt (IsS79.lt (show IsS79 w _ g216 t214 t218 from by repeat (first | (with_reducible first | exact HI216.out | apply IsS79.alloc | apply IsS79.drewN | apply IsS79.drew | apply IsS79.set_1 | refine IsS79.far ?_ NB216_213.out _) | exact HI216.out))) : gb219 ≠ g216)); clear BK213; clear HI216; clear HB; have BK213 := n0_; have HI216 := n1_; have HB := n2_; have BK219 := n3_; have GW219 := n4_; have GE219 := n5_; have NB213_219 := n6_; have NB219_213 := n7_; have NB216_219 := n8_; have NB219_216 := n9_; clear n0_ n1_ n2_ n3_ n4_ n5_ n6_ n7_ n8_ n9_; clear hb hbox hg; have hnb9 := NB219_213.out; have hnc9 := NB213_219.out; have hnb10 := NB219_216.out; have hnc10 := NB216_219.out; have hcz11_0 : w8.cell? ⟨gb219, 0, none⟩ = some (.int .i64 0) := (blk_cell BK219.out 0).trans rfl; have hcz11_1 : w8.cell? ⟨gb219, 1, none⟩ = some (.bool false) := (blk_cell BK219.out 1).trans rfl; have hcz11_2 : w8.cell? ⟨gb219, 2, none⟩ = some (.slice none 0 0) := (blk_cell BK219.out 2).trans rfl; have hcz11_3 : w8.cell? ⟨gb219, 3, none⟩ = some (.int .i64 0) := (blk_cell BK219.out 3).trans rfl; have hcz11_4 : w8.cell? ⟨gb219, 4, none⟩ = some (.int .i64 0) := (blk_cell BK219.out 4).trans rfl; have hcz11_5 : w8.cell? ⟨gb219, 5, none⟩ = some (.int .i64 0) := (blk_cell BK219.out 5).trans rfl; have hcz11_6 : w8.cell? ⟨gb219, 6, none⟩ = some (.int .i64 0) := (blk_cell BK219.out 6).trans rfl; have hfz11_0 := blk_frozen BK219.out 0; have hfz11_1 := blk_frozen BK219.out 1; have hfz11_2 := blk_frozen BK219.out 2; have hfz11_3 := blk_frozen BK219.out 3; have hfz11_4 := blk_frozen BK219.out 4; have hfz11_5 := blk_frozen BK219.out 5; have hfz11_6 := blk_frozen BK219.out 6) | ((with_reducible refine gate_store (t := 41) (p := 5) rfl ?_); refine store_event (t := 41) (p := 5) (v := ?vo_w12) (w1 := (((((((w8.setCell ⟨gb219, 0, none⟩ (.int .i64 2)).setCell ⟨gb219, 1, none⟩ (.bool t217)).setCell ⟨gb219, 2, none⟩ (.slice none 0 0)).setCell ⟨gb219, 3, none⟩ (.int .i64 0)).setCell ⟨gb219, 4, none⟩ (.int .i64 0)).setCell ⟨gb219, 5, none⟩ (.int .i64 0)).setCell ⟨gb219, 6, none⟩ (.int .i64 0))) ?hg ?ho ?hn ?hr ?_; (case ho => rfl); (case hg => rfl); (case hn => rfl); (case hr => first | (go_simp; done) | (go_simp; rfl)); intro w12 hw; have n0_ : Aside0 (w12.heap[gb213]? = some (.cells #[.int .i64 0, .bool false, .slice none 0 0, .int .i64 0, .int .i64 0, .int .i64 0, .int .i64 0] 41 (0, 0))) := ⟨(by rw [hw]; exact (by (with_reducible repeat (first | refine blk_drewN ?_ _ | refine blk_drew ?_ | refine blk_alloc ?_ _)); refine blk_far ?_ NB213_219.out _; (with_reducible repeat (first | refine blk_drewN ?_ _ | refine blk_drew ?_ | refine blk_alloc ?_ _)); refine blk_far ?_ NB213_219.out _; (with_reducible repeat (first | refine blk_drewN ?_ _ | refine blk_drew ?_ | refine blk_alloc ?_ _)); refine blk_far ?_ NB213_219.out _; (with_reducible repeat (first | refine blk_drewN ?_ _ | refine blk_drew ?_ | refine blk_alloc ?_ _)); refine blk_far ?_ NB213_219.out _; (with_reducible repeat (first | refine blk_drewN ?_ _ | refine blk_drew ?_ | refine blk_alloc ?_ _)); refine blk_far ?_ NB213_219.out _; (with_reducible repeat (first | refine blk_drewN ?_ _ | refine blk_drew ?_ | refine blk_alloc ?_ _)); refine blk_far ?_ NB213_219.out _; (with_reducible repeat (first | refine blk_drewN ?_ _ | refine blk_drew ?_ | refine blk_alloc ?_ _)); refine blk_far ?_ NB213_219.out _; (with_reducible repeat (first | refine blk_drewN ?_ _ | refine blk_drew ?_ | refine blk_alloc ?_ _)); exact BK213.out))⟩; have n1_ : Aside0 (w12.heap[gb219]? = some (.cells #[.int .i64 2, .bool t217, .slice none 0 0, .int .i64 0, .int .i64 0, .int .i64 0, .int .i64 0] 41 (0, 0))) := ⟨(by rw [hw]; exact (by (with_reducible repeat (first | refine blk_drewN ?_ _ | refine blk_drew ?_ | refine blk_alloc ?_ _)); refine blk_put (cs := #[.int .i64 2, .bool t217, .slice none 0 0, .int .i64 0, .int .i64 0, .int .i64 0, .int .i64 0]) ?_ 6 _ rfl; (with_reducible repeat (first | refine blk_drewN ?_ _ | refine blk_drew ?_ | refine blk_alloc ?_ _)); refine blk_put (cs := #[.int .i64 2, .bool t217, .slice none 0 0, .int .i64 0, .int .i64 0, .int .i64 0, .int .i64 0]) ?_ 5 _ rfl; (with_reducible repeat (first | refine blk_drewN ?_ _ | refine blk_drew ?_ | refine blk_alloc ?_ _)); refine blk_put (cs := #[.int .i64 2, .bool t217, .slice none 0 0, .int .i64 0, .int .i64 0, .int .i64 0, .int .i64 0]) ?_ 4 _ rfl; (with_reducible repeat (first | refine blk_drewN ?_ _ | refine blk_drew ?_ | refine blk_alloc ?_ _)); refine blk_put (cs := #[.int .i64 2, .bool t217, .slice none 0 0, .int .i64 0, .int .i64 0, .int .i64 0, .int .i64 0]) ?_ 3 _ rfl; (with_reducible repeat (first | refine blk_drewN ?_ _ | refine blk_drew ?_ | refine blk_alloc ?_ _)); refine blk_put (cs := #[.int .i64 2, .bool t217, .slice none 0 0, .int .i64 0, .int .i64 0, .int .i64 0, .int .i64 0]) ?_ 2 _ rfl; (with_reducible repeat (first | refine blk_drewN ?_ _ | refine blk_drew ?_ | refine blk_alloc ?_ _)); refine blk_put (cs := #[.int .i64 2, .bool false, .slice none 0 0, .int .i64 0, .int .i64 0, .int .i64 0, .int .i64 0]) ?_ 1 _ rfl; (with_reducible repeat (first | refine blk_drewN ?_ _ | refine blk_drew ?_ | refine blk_alloc ?_ _)); refine blk_put (cs := #[.int .i64 0, .bool false, .slice none 0 0, .int .i64 0, .int .i64 0, .int .i64 0, .int .i64 0]) ?_ 0 _ rfl; (with_reducible repeat (first | refine blk_drewN ?_ _ | refine blk_drew ?_ | refine blk_alloc ?_ _)); exact BK219.out))⟩; have n2_ : Aside0 (IsS79 w w12 g216 t214 t218) := ⟨(by rw [hw]; exact (by repeat (first | (with_reducible first | exact HI216.out | apply IsS79.alloc | apply IsS79.drewN | apply IsS79.drew | apply IsS79.set_1 | refine IsS79.far ?_ NB216_213.out _ | refine IsS79.far ?_ NB216_219.out _) | exact HI216.out)))⟩; have n3_ : Aside0 (Below w.heap.size w w12) := ⟨(by rw [hw]; exact (by repeat (first | (with_reducible first | exact HB.out | apply below_alloc | apply pw_below_drewN | apply below_drew1 | refine below_set ?_ (IsS79.ge HI216.out) | refine below_set ?_ GE213.out | refine below_set ?_ GE219.out) | exact HB.out)))⟩; clear hw; clear BK213; clear BK219; clear HI216; clear HB; have BK213 := n0_; have BK219 := n1_; have HI216 := n2_; have HB := n3_; clear n0_ n1_ n2_ n3_) | ((with_reducible refine gate_callee (f := 51) rfl ?_); refine goesL_ (some 14) rfl rfl Try.func51 (by kernel_rfl) rfl #[.pointer (some ⟨g216, 0, none⟩), .int .i64 3] rfl (by (try simp only [List.map_toArray, List.map_cons, List.map_nil]); first | done | rfl | (simp only [List.length_drop, List.length_take]; rfl)) ?_; (with_reducible refine (spec_l1Rd_below.calls g216 t214 t218 3 t220 t221 w _ ?side1 ?side2 A4.out).mono ?_); (case side1 => repeat (first | (with_reducible first | exact HI216.out | apply IsS79.alloc | apply IsS79.drewN | apply IsS79.drew | apply IsS79.set_1 | refine IsS79.far ?_ NB216_213.out _ | refine IsS79.far ?_ NB216_219.out _) | exact HI216.out)); (case side2 => repeat (first | (with_reducible first | exact HB.out | apply below_alloc | apply pw_below_drewN | apply below_drew1 | refine below_set ?_ (IsS79.ge HI216.out) | refine below_set ?_ GE213.out | refine below_set ?_ GE219.out) | exact HB.out)); rintro e w13 ⟨rfl, hi, hb, hk⟩; refine ⟨_, rfl, ?_⟩; have n0_ := Aside0.mk (KeepBut.blk hk (g' := gb213) (o := .cells #[.int .i64 0, .bool false, .slice none 0 0, .int .i64 0, .int .i64 0, .int .i64 0, .int .i64 0] 41 (0, 0)) (by (with_reducible repeat (first | refine blk_drewN ?_ _ | refine blk_drew ?_ | refine blk_alloc ?_ _)); exact BK213.out) NB213_216.out (by simp)); have n1_ := Aside0.mk (KeepBut.blk hk (g' := gb219) (o := .cells #[.int .i64 2, .bool t217, .slice none 0 0, .int .i64 0, .int .i64 0, .int .i64 0, .int .i64 0] 41 (0, 0)) (by (with_reducible repeat (first | refine blk_drewN ?_ _ | refine blk_drew ?_ | refine blk_alloc ?_ _)); exact BK219.out) NB219_216.out (by simp)); have n2_ := Aside0.mk (hb); have n3_ := Aside0.mk (hi); clear BK213; clear BK219; clear HB; clear HI216; have BK213 := n0_; have BK219 := n1_; have HB := n2_; have HI216 := n3_; clear n0_ n1_ n2_ n3_; (try clear hb); (try clear hb2); (try clear hk); (try clear hi)))
 go_loopg [6] k (fun kq v6 w' => ∃ (x6_1 : Int) (x217001_1 : Int) (x220002_1 : List (S68)) (u220002 : Value), v6 = .int .i64 x6_1 ∧ Aside0 (spec_DrawClassHas.l0 kq x6_1 t214 x217001_1 2 t217 x220002_1 0 0 0 0 = some (r1, r2, r3, r4, r5, r6, r7, r8)) ∧ Aside0 (kq ≤ k) ∧ Aside0 (Kd.R k68 68 w' w.heap.size (fun _ => True) u220002 x220002_1) ∧ Aside0 (w'.heap[gb213]? = some (.cells #[.int .i64 0, .bool false, (.slice none 0 0), .int .i64 0, .int .i64 0, .int .i64 0, .int .i64 0] 41 (0, 0))) ∧ Aside0 (w'.heap[gb219]? = some (.cells #[.int .i64 2, .bool t217, u220002, .int .i64 0, .int .i64 0, .int .i64 0, .int .i64 0] 41 (0, 0))) ∧ Aside0 (IsS79 w w' g216 t214 x217001_1) ∧ Aside0 (Below w.heap.size w w'))
 case atStart => exact ⟨(wrap64 (1 + t220)), (t221), (([] : List (S68))), (.slice none 0 0), (by first | rfl | (simp; done) | (simp [*]; done)), H', ⟨Nat.le_refl _⟩, ⟨by first | exact Kd.R_nil _ _ _ _ _ | exact Kd.N_nil _ _ _ _ _ | exact Kd.V_nil _ _ _ _ _ | exact Kd.Q_nil _ _ _ _ _ | exact Kd.S_nil _ _ _ _ _⟩, ⟨by (with_reducible repeat (first | refine blk_drewN ?_ _ | refine blk_drew ?_ | refine blk_alloc ?_ _)); exact BK213.out⟩, ⟨by (with_reducible repeat (first | refine blk_drewN ?_ _ | refine blk_drew ?_ | refine blk_alloc ?_ _)); exact BK219.out⟩, ⟨by repeat (first | (with_reducible first | exact HI216.out | apply IsS79.alloc | apply IsS79.drewN | apply IsS79.drew | apply IsS79.set_1 | refine IsS79.far ?_ NB216_213.out _ | refine IsS79.far ?_ NB216_219.out _) | exact HI216.out)⟩, ⟨by repeat (first | (with_reducible first | exact HB.out | apply below_alloc | apply pw_below_drewN | apply below_drew1 | refine below_set ?_ (IsS79.ge HI216.out) | refine below_set ?_ GE213.out | refine below_set ?_ GE219.out) | exact HB.out)⟩⟩
 case round =>
  clear H'
  try clear c1
  try clear c2
  try clear p2
  try clear c3
  try clear c4
  try clear c5
  try clear p6
  try clear c9
  try clear c10
  try clear hcz11_0
  try clear hcz11_1
  try clear hcz11_2
  try clear hcz11_3
  try clear hcz11_4
  try clear hcz11_5
  try clear hcz11_6
  try clear hfz11_0
  try clear hfz11_1
  try clear hfz11_2
  try clear hfz11_3
  try clear hfz11_4
  try clear hfz11_5
  try clear hfz11_6
  obtain ⟨x6_1, x217001_1, x220002_1, u220002, rfl, HA, HK1, HO_220002, BK213, BK219, HI216, HB⟩ := hrel
  cases gk with
  | zero => exact absurd HA.out (by simp [spec_DrawClassHas.l0])
  | succ k1 =>
   have H := HA.out
   clear HA
   simp only [spec_DrawClassHas.l0] at H
   by_cases c14 : x6_1 > 0
   ·rw [if_pos c14] at H
    have c14b0 : decide (0 < x6_1) = true := decide_eq_true c14
    clear c14
    replace H := Option.bind_eq_some_iff.mp H
    obtain ⟨⟨t222, t223⟩, A150, H⟩ := H
    replace H : ((spec_l1Rd_below.f t214 t223 6).bind fun bt224 => (if x220002_1.length < 8796093022208 then (spec_DrawClassHas.l0 k1 (wrap64 (x6_1 - 1)) t214 bt224.2 2 t217 (x220002_1 ++ [(⟨wrap64 (90 + t222), wrap64 ((wrap64 (90 + t222)) + bt224.1)⟩ : S68)]) 0 0 0 0) else (none))) = some (r1, r2, r3, r4, r5, r6, r7, r8) := H
    have A15 := Aside0.mk A150
    clear A150
    replace H := Option.bind_eq_some_iff.mp H
    obtain ⟨⟨t224, t225⟩, A160, H⟩ := H
    replace H : (if x220002_1.length < 8796093022208 then (spec_DrawClassHas.l0 k1 (wrap64 (x6_1 - 1)) t214 t225 2 t217 (x220002_1 ++ [(⟨wrap64 (90 + t222), wrap64 ((wrap64 (90 + t222)) + t224)⟩ : S68)]) 0 0 0 0) else (none)) = some (r1, r2, r3, r4, r5, r6, r7, r8) := H
    have A16 := Aside0.mk A160
    clear A160
    by_cases c17 : x220002_1.length < 8796093022208
    ·rw [if_pos c17] at H
     have LMc17 := Aside0.mk c17
     clear c17
     obtain ⟨y226, hy226⟩ : ∃ y_ : List (S68), y_ = (x220002_1 ++ [(⟨wrap64 (90 + t222), wrap64 ((wrap64 (90 + t222)) + t224)⟩ : S68)]) := ⟨_, rfl⟩
     replace H : (spec_DrawClassHas.l0 k1 (wrap64 (x6_1 - 1)) t214 t225 2 t217 y226 0 0 0 0) = some (r1, r2, r3, r4, r5, r6, r7, r8) := by first | (rw [hy226]; with_reducible exact H) | (have H2_ := (Option.bind_some _ _).symm.trans H; rw [hy226]; with_reducible exact H2_) | (have H2_ := (Option.bind_some _ _).symm.trans H; with_reducible exact H2_) | with_reducible exact H | (rw [hy226]; exact H) | exact H
     have Ny226 := Aside0.mk hy226
     clear hy226
     have H' := Aside0.mk H
     clear H
     try go_wp2_with (first | ((with_reducible refine gate_callee (f := 51) rfl ?_); refine goesL_ (some 21) rfl rfl Try.func51 (by kernel_rfl) rfl #[.pointer (some ⟨g216, 0, none⟩), .int .i64 20] rfl (by (try simp only [List.map_toArray, List.map_cons, List.map_nil]); first | done | rfl | (simp only [List.length_drop, List.length_take]; rfl)) ?_; (with_reducible refine (spec_l1Rd_below.calls g216 t214 x217001_1 20 t222 t223 w _ ?side1 ?side2 A15.out).mono ?_); (case side1 => repeat (first | (with_reducible first | exact HI216.out | apply IsS79.alloc | apply IsS79.drewN | apply IsS79.drew | apply IsS79.set_1 | refine IsS79.far ?_ NB216_213.out _ | refine IsS79.far ?_ NB216_219.out _) | exact HI216.out)); (case side2 => repeat (first | (with_reducible first | exact HB.out | apply below_alloc | apply pw_below_drewN | apply below_drew1 | refine below_set ?_ (IsS79.ge HI216.out) | refine below_set ?_ GE213.out | refine below_set ?_ GE219.out) | exact HB.out)); rintro e w18 ⟨rfl, hi, hb, hk⟩; refine ⟨_, rfl, ?_⟩; have n0_ := Aside0.mk (Kd.R_mono (Kd.R_keep (IsS79.apart (show IsS79 w _ g216 t214 x217001_1 from by repeat (first | (with_reducible first | exact HI216.out | apply IsS79.alloc | apply IsS79.drewN | apply IsS79.drew | apply IsS79.set_1 | refine IsS79.far ?_ NB216_213.out _ | refine IsS79.far ?_ NB216_219.out _) | exact HI216.out)) (by (with_reducible repeat (first | apply Kd.R_alloc | apply Kd.R_drewN | apply Kd.R_drew)); exact HO_220002.out) (by decide)) hk (fun _ h => h.2)) (fun _ h => h.1)); have n1_ := Aside0.mk (KeepBut.blk hk (g' := gb213) (o := .cells #[.int .i64 0, .bool false, .slice none 0 0, .int .i64 0, .int .i64 0, .int .i64 0, .int .i64 0] 41 (0, 0)) (by (with_reducible repeat (first | refine blk_drewN ?_ _ | refine blk_drew ?_ | refine blk_alloc ?_ _)); exact BK213.out) NB213_216.out (by simp)); have n2_ := Aside0.mk (KeepBut.blk hk (g' := gb219) (o := .cells #[.int .i64 2, .bool t217, u220002, .int .i64 0, .int .i64 0, .int .i64 0, .int .i64 0] 41 (0, 0)) (by (with_reducible repeat (first | refine blk_drewN ?_ _ | refine blk_drew ?_ | refine blk_alloc ?_ _)); exact BK219.out) NB219_216.out (by simp)); have n3_ := Aside0.mk (hb); have n4_ := Aside0.mk (hi); clear HO_220002; clear BK213; clear BK219; clear HB; clear HI216; have HO_220002 := n0_; have BK213 := n1_; have BK219 := n2_; have HB := n3_; have HI216 := n4_; clear n0_ n1_ n2_ n3_ n4_; (try clear hb); (try clear hb2); (try clear hk); (try clear hi)))
     have n0_ := Aside0.mk (Kd.R_drew HO_220002.out)
     have n1_ := Aside0.mk (blk_drew BK213.out)
     have n2_ := Aside0.mk (blk_drew BK219.out)
     have n3_ := Aside0.mk (IsS79.drew HI216.out)
     have n4_ := Aside0.mk (below_drew1 HB.out)
     clear HO_220002
     clear BK213
     clear BK219
     clear HI216
     clear HB
     have HO_220002 := n0_
     have BK213 := n1_
     have BK219 := n2_
     have HI216 := n3_
     have HB := n4_
     clear n0_ n1_ n2_ n3_ n4_
     refine start_ (n := 12) (S := fun w' => w'.cell? ⟨gb219, 0, none⟩ = some (.int .i64 2) ∧ w'.cell? ⟨gb219, 1, none⟩ = some (.bool t217) ∧ w'.cell? ⟨gb219, 2, none⟩ = some (u220002) ∧ w'.cell? ⟨gb219, 3, none⟩ = some (.int .i64 0) ∧ w'.cell? ⟨gb219, 4, none⟩ = some (.int .i64 0) ∧ w'.cell? ⟨gb219, 5, none⟩ = some (.int .i64 0) ∧ w'.cell? ⟨gb219, 6, none⟩ = some (.int .i64 0)) (ds := [11]) #[false, false, false, false, false, false, false, false, false, false, false, false] (by kernel_rfl) rfl rfl ⟨(blk_cell BK219.out 0).trans rfl, (blk_cell BK219.out 1).trans rfl, (blk_cell BK219.out 2).trans rfl, (blk_cell BK219.out 3).trans rfl, (blk_cell BK219.out 4).trans rfl, (blk_cell BK219.out 5).trans rfl, (blk_cell BK219.out 6).trans rfl⟩ (fun hHeld => ?_); refine with_tabW spec_DrawClassHas.tab7 spec_DrawClassHas.bits7 (fun HT_ HW_ => ?_)
     generalize w18.drew = w19 at HO_220002 BK213 BK219 HI216 HB hHeld ⊢
     refine pure_ (i := 0) (N := some 23) (v := ?_) (a' := ?_) #[true, false, false, false, false, false, false, false, false, false, false, false] rfl rfl (any_of HT_.out (by kernel_rfl)) (fun _ _ _ h => h) (Or.inl ⟨by rfl, ?_⟩) ?_ ?_
     rotate_left
     ·intro w'
      go_simp
      with_reducible rfl
     rotate_left
     ·simp only [Act.put, List.setIfInBounds_toArray, List.set_cons_zero, List.set_cons_succ, i64_w, i32_w]
      rfl
     refine pure_ (i := 2) (N := some 25) (v := ?_) (a' := ?_) #[true, false, true, false, false, false, false, false, false, false, false, false] rfl rfl (any_of HT_.out (by kernel_rfl)) (fun _ _ _ h => h) (Or.inl ⟨by rfl, ?_⟩) ?_ ?_
     rotate_left
     ·intro w'
      go_simp
      with_reducible rfl
     rotate_left
     ·simp only [Act.put, List.setIfInBounds_toArray, List.set_cons_zero, List.set_cons_succ, i64_w, i32_w]
      rfl
     refine pure_ (i := 3) (N := some 26) (v := ?_) (a' := ?_) #[true, false, true, true, false, false, false, false, false, false, false, false] rfl rfl (any_of HT_.out (by kernel_rfl)) (fun _ _ _ h => h) (Or.inl ⟨by rfl, ?_⟩) ?_ ?_
     rotate_left
     ·intro w'
      go_simp
      with_reducible rfl
     rotate_left
     ·simp only [Act.put, List.setIfInBounds_toArray, List.set_cons_zero, List.set_cons_succ, i64_w, i32_w]
      rfl
     refine pure_ (i := 4) (N := some 27) (v := ?_) (a' := ?_) #[true, false, true, true, true, false, false, false, false, false, false, false] rfl rfl (any_of HT_.out (by kernel_rfl)) (fun _ _ _ h => h) (Or.inl ⟨by rfl, ?_⟩) ?_ ?_
     rotate_left
     ·intro w'
      go_simp
      with_reducible rfl
     rotate_left
     ·simp only [Act.put, List.setIfInBounds_toArray, List.set_cons_zero, List.set_cons_succ, i64_w, i32_w]
      rfl
     refine take_ (i := 1) (N := some 24) (v := ?_) (a' := ?_) #[true, true, true, true, true, false, false, false, false, false, false, false] rfl rfl (take_ofW HT_.out HW_.out (by kernel_rfl)) (fun _ _ _ h => h) (Or.inl ⟨by rfl, ?_⟩) hHeld ?_ ?_
     rotate_left
     ·rintro w' ⟨s0, s1, s2, s3, s4, s5, s6⟩
      go_simp
      with_reducible rfl
     rotate_left
     ·simp only [Act.put, List.setIfInBounds_toArray, List.set_cons_zero, List.set_cons_succ, i64_w, i32_w]
      rfl
     refine one_ (i := 5) (N := some 28) #[true, true, true, true, true, true, false, false, false, false, false, false] rfl rfl (one_of HT_.out (by kernel_rfl)) (by decide) (fun K hK => ?_)
     refine goes_ Try.func51 (by kernel_rfl) rfl #[.pointer (some ⟨g216, 0, none⟩), .int .i64 6] (by rfl) rfl rfl (by (try simp only [List.map_toArray, List.map_cons, List.map_nil]); first | done | rfl | (simp only [List.length_drop, List.length_take]; rfl)) ?_
     with_reducible refine (spec_l1Rd_below.calls g216 t214 t223 6 t224 t225 w _ ?side1 ?side2 A16.out).mono ?_
     (case side1 => repeat (first | (with_reducible first | exact HI216.out | apply IsS79.alloc | apply IsS79.drewN | apply IsS79.drew | apply IsS79.set_1 | refine IsS79.far ?_ NB216_213.out _ | refine IsS79.far ?_ NB216_219.out _) | exact HI216.out))
     (case side2 => repeat (first | (with_reducible first | exact HB.out | apply below_alloc | apply pw_below_drewN | apply below_drew1 | refine below_set ?_ (IsS79.ge HI216.out) | refine below_set ?_ GE213.out | refine below_set ?_ GE219.out) | exact HB.out))
     rintro e w20 ⟨rfl, hi, hb, hk⟩
     refine ⟨_, rfl, ?_⟩
     have n0_ := Aside0.mk (Kd.R_mono (Kd.R_keep (IsS79.apart (show IsS79 w _ g216 t214 t223 from by repeat (first | (with_reducible first | exact HI216.out | apply IsS79.alloc | apply IsS79.drewN | apply IsS79.drew | apply IsS79.set_1 | refine IsS79.far ?_ NB216_213.out _ | refine IsS79.far ?_ NB216_219.out _) | exact HI216.out)) (by (with_reducible repeat (first | apply Kd.R_alloc | apply Kd.R_drewN | apply Kd.R_drew)); exact HO_220002.out) (by decide)) hk (fun _ h => h.2)) (fun _ h => h.1))
     have n1_ := Aside0.mk (KeepBut.blk hk (g' := gb213) (o := .cells #[.int .i64 0, .bool false, .slice none 0 0, .int .i64 0, .int .i64 0, .int .i64 0, .int .i64 0] 41 (0, 0)) (by (with_reducible repeat (first | refine blk_drewN ?_ _ | refine blk_drew ?_ | refine blk_alloc ?_ _)); exact BK213.out) NB213_216.out (by simp))
     have n2_ := Aside0.mk (KeepBut.blk hk (g' := gb219) (o := .cells #[.int .i64 2, .bool t217, u220002, .int .i64 0, .int .i64 0, .int .i64 0, .int .i64 0] 41 (0, 0)) (by (with_reducible repeat (first | refine blk_drewN ?_ _ | refine blk_drew ?_ | refine blk_alloc ?_ _)); exact BK219.out) NB219_216.out (by simp))
     have n3_ := Aside0.mk (hb)
     have n4_ := Aside0.mk (hi)
     clear HO_220002
     clear BK213
     clear BK219
     clear HB
     clear HI216
     have HO_220002 := n0_
     have BK213 := n1_
     have BK219 := n2_
     have HB := n3_
     have HI216 := n4_
     clear n0_ n1_ n2_ n3_ n4_
     (try clear hb)
     (try clear hb2)
     (try clear hk)
     (try clear hi)
     refine hK.out _ _ ⟨(blk_cell BK219.out 0).trans rfl, (blk_cell BK219.out 1).trans rfl, (blk_cell BK219.out 2).trans rfl, (blk_cell BK219.out 3).trans rfl, (blk_cell BK219.out 4).trans rfl, (blk_cell BK219.out 5).trans rfl, (blk_cell BK219.out 6).trans rfl⟩ (fun hHeld => ?_)
     clear hK K
     refine norm_ (a' := ?_) ?_ ?_
     rotate_left
     ·show Act.put _ (some 28) _ = _
      simp only [Act.put, List.setIfInBounds_toArray, List.set_cons_zero, List.set_cons_succ, i64_w, i32_w]
      rfl
     refine pure_ (i := 6) (N := some 29) (v := ?_) (a' := ?_) #[true, true, true, true, true, true, true, false, false, false, false, false] rfl rfl (any_of HT_.out (by kernel_rfl)) (fun _ _ _ h => h) (Or.inl ⟨by rfl, ?_⟩) ?_ ?_
     rotate_left
     ·intro w'
      go_simp
      with_reducible rfl
     rotate_left
     ·simp only [Act.put, List.setIfInBounds_toArray, List.set_cons_zero, List.set_cons_succ, i64_w, i32_w]
      rfl
     refine pure_ (i := 7) (N := some 30) (v := ?_) (a' := ?_) #[true, true, true, true, true, true, true, true, false, false, false, false] rfl rfl (any_of HT_.out (by kernel_rfl)) (fun _ _ _ h => h) (Or.inl ⟨by rfl, ?_⟩) ?_ ?_
     rotate_left
     ·intro w'
      go_simp
      with_reducible rfl
     rotate_left
     ·simp only [Act.put, List.setIfInBounds_toArray, List.set_cons_zero, List.set_cons_succ, i64_w, i32_w]
      rfl
     refine one_ (i := 8) (N := some 31) #[true, true, true, true, true, true, true, true, true, false, false, false] rfl rfl (one_of HT_.out (by kernel_rfl)) (by decide) (fun K hK => ?_)
     refine value_ (w1 := ?_) (v := ?_) (by rfl) rfl ?_ ?_
     rotate_left 2
     ·go_simp
      constructor
      ·rfl
      ·rfl
     refine hK.out _ _ ⟨(blk_cell (blk_alloc BK219.out _) 0).trans rfl, (blk_cell (blk_alloc BK219.out _) 1).trans rfl, (blk_cell (blk_alloc BK219.out _) 2).trans rfl, (blk_cell (blk_alloc BK219.out _) 3).trans rfl, (blk_cell (blk_alloc BK219.out _) 4).trans rfl, (blk_cell (blk_alloc BK219.out _) 5).trans rfl, (blk_cell (blk_alloc BK219.out _) 6).trans rfl⟩ (fun hHeld => ?_)
     clear hK K
     refine norm_ (a' := ?_) ?_ ?_
     rotate_left
     ·show Act.put _ (some 31) _ = _
      simp only [Act.put, List.setIfInBounds_toArray, List.set_cons_zero, List.set_cons_succ, i64_w, i32_w]
      rfl
     refine one_ (i := 9) (N := some 32) #[true, true, true, true, true, true, true, true, true, true, false, false] rfl rfl (one_of HT_.out (by kernel_rfl)) (by decide) (fun K hK => ?_)
     refine Kd.R_append_step k68 (w0 := w) w.heap.size (by rfl) (.tmp 24) (.tmp 31) 39 68 (.agg #[(.int .i64 0), (.int .i64 0)]) 16 rfl Try.underlying39 info68 rfl (by decide) (by omega) u220002 x220002_1 (⟨wrap64 (90 + t222), wrap64 ((wrap64 (90 + t222)) + t224)⟩ : S68) [.int .i64 (wrap64 (90 + t222)), .int .i64 (wrap64 ((wrap64 (90 + t222)) + t224))] (fun _ => True) (fun _ => False) rfl rfl ?aP (fun _ hk => hk.elim) ?aF ?aO ?aB ?aS ?aL ?_
     (case aP => exact k68_mkM _ _ _ (⟨wrap64 (90 + t222), wrap64 ((wrap64 (90 + t222)) + t224)⟩ : S68))
     (case aB => exact (by repeat (first | (with_reducible first | exact HB.out | apply below_alloc | apply pw_below_drewN | apply below_drew1 | refine below_set ?_ (IsS79.ge HI216.out) | refine below_set ?_ GE213.out | refine below_set ?_ GE219.out) | exact HB.out)))
     (case aF => exact (fun _ _ => trivial))
     (case aO => exact (by (with_reducible repeat (first | apply Kd.R_alloc | apply Kd.R_drewN | apply Kd.R_drew)); exact HO_220002.out))
     (case aS => exact (below_size (by repeat (first | (with_reducible first | exact HB.out | apply below_alloc | apply pw_below_drewN | apply below_drew1 | refine below_set ?_ (IsS79.ge HI216.out) | refine below_set ?_ GE213.out | refine below_set ?_ GE219.out) | exact HB.out))))
     (case aL => have := LMc17.out; omega)
     intro v227 w21 ho hb hg hat
     rw [← Ny226.out] at ho
     have n0_ := Aside0.mk (blk_grown (g := gb213) (o := .cells #[.int .i64 0, .bool false, .slice none 0 0, .int .i64 0, .int .i64 0, .int .i64 0, .int .i64 0] 41 (0, 0)) (by (with_reducible repeat (first | refine blk_drewN ?_ _ | refine blk_drew ?_ | refine blk_alloc ?_ _)); exact BK213.out) hg (Kd.R_ne HO_220002.out BK213.out (by decide)))
     have n1_ := Aside0.mk (blk_grown (g := gb219) (o := .cells #[.int .i64 2, .bool t217, u220002, .int .i64 0, .int .i64 0, .int .i64 0, .int .i64 0] 41 (0, 0)) (by (with_reducible repeat (first | refine blk_drewN ?_ _ | refine blk_drew ?_ | refine blk_alloc ?_ _)); exact BK219.out) hg (Kd.R_ne HO_220002.out BK219.out (by decide)))
     have n2_ := Aside0.mk (IsS79.grown (by repeat (first | (with_reducible first | exact HI216.out | apply IsS79.alloc | apply IsS79.drewN | apply IsS79.drew | apply IsS79.set_1 | refine IsS79.far ?_ NB216_213.out _ | refine IsS79.far ?_ NB216_219.out _) | exact HI216.out)) hg (IsS79.own_ne HI216.out HO_220002.out (by decide)))
     have n3_ := Aside0.mk (hb)
     have n4_ := Aside0.mk (ho)
     clear BK213
     clear BK219
     clear HI216
     clear HB
     clear HO_220002
     have BK213 := n0_
     have BK219 := n1_
     have HI216 := n2_
     have HB := n3_
     have HO228 := n4_
     clear n0_ n1_ n2_ n3_ n4_
     clear ho hb hg hat
     obtain ⟨Ao22, co22, eo22⟩ := Kd.R_slice HO228.out
     (first | subst eo22 | (injection eo22 with f1_ f2_ f3_; have f4_ := f1_.symm; have f5_ := f3_.symm; clear f1_ f2_ f3_; subst f4_; subst f5_))
     refine hK.out _ _ ⟨(blk_cell BK219.out 0).trans rfl, (blk_cell BK219.out 1).trans rfl, (blk_cell BK219.out 2).trans rfl, (blk_cell BK219.out 3).trans rfl, (blk_cell BK219.out 4).trans rfl, (blk_cell BK219.out 5).trans rfl, (blk_cell BK219.out 6).trans rfl⟩ (fun hHeld => ?_)
     clear hK K
     refine norm_ (a' := ?_) ?_ ?_
     rotate_left
     ·show Act.put _ (some 32) _ = _
      simp only [Act.put, List.setIfInBounds_toArray, List.set_cons_zero, List.set_cons_succ, i64_w, i32_w]
      rfl
     refine pure_ (i := 10) (N := some 33) (v := ?_) (a' := ?_) #[true, true, true, true, true, true, true, true, true, true, true, false] rfl rfl (any_of HT_.out (by kernel_rfl)) (fun _ _ _ h => h) (Or.inl ⟨by rfl, ?_⟩) ?_ ?_
     rotate_left
     ·intro w'
      go_simp
      with_reducible rfl
     rotate_left
     ·simp only [Act.put, List.setIfInBounds_toArray, List.set_cons_zero, List.set_cons_succ, i64_w, i32_w]
      rfl
     refine last_ (i := 11) (N := none) #[true, true, true, true, true, true, true, true, true, true, true, true] rfl rfl (one_of HT_.out (by kernel_rfl)) (by decide) (fun K hK => ?_)
     have hs23 : w21.cell? ⟨gb219, 2, none⟩ = some (u220002) := (blk_cell BK219.out 2).trans rfl
     have hfs23 := blk_frozen BK219.out 2
     have hns23_0 := NB213_219.out
     have hms23_0 := NB219_213.out
     refine skip_ (w1 := ?_) (by rfl) rfl ?_ ?_
     rotate_left
     ·go_simp
      rfl
     refine hK.out _ _ ?_
     clear hK K
     refine done_ (done_of HT_.out (by kernel_rfl)) ?_
     try go_wp2
     go_roundg k1
     case measure => have := HK1.out; omega
     case rel => exact ⟨(wrap64 (x6_1 - 1)), (t225), (y226), (.slice Ao22 y226.length co22), (by first | rfl | (simp; done) | (simp [*]; done)), H', ⟨by have := HK1.out; omega⟩, ⟨by (with_reducible repeat (first | apply Kd.R_alloc | apply Kd.R_drewN | apply Kd.R_drew)); exact Kd.R_mono (Kd.R_far (p := ⟨gb219, 2, none⟩) (Kd.R_types HO228.out BK219.out (by decide)) (fun _ hk => hk.2) (.slice Ao22 y226.length co22)) (fun _ hk => trivial)⟩, ⟨by (with_reducible repeat (first | refine blk_drewN ?_ _ | refine blk_drew ?_ | refine blk_alloc ?_ _)); refine blk_far ?_ NB213_219.out _; (with_reducible repeat (first | refine blk_drewN ?_ _ | refine blk_drew ?_ | refine blk_alloc ?_ _)); exact BK213.out⟩, ⟨by (with_reducible repeat (first | refine blk_drewN ?_ _ | refine blk_drew ?_ | refine blk_alloc ?_ _)); refine blk_put (cs := #[.int .i64 2, .bool t217, u220002, .int .i64 0, .int .i64 0, .int .i64 0, .int .i64 0]) ?_ 2 _ rfl; (with_reducible repeat (first | refine blk_drewN ?_ _ | refine blk_drew ?_ | refine blk_alloc ?_ _)); exact BK219.out⟩, ⟨by repeat (first | (with_reducible first | exact HI216.out | apply IsS79.alloc | apply IsS79.drewN | apply IsS79.drew | apply IsS79.set_1 | refine IsS79.far ?_ NB216_213.out _ | refine IsS79.far ?_ NB216_219.out _) | exact HI216.out)⟩, ⟨by repeat (first | (with_reducible first | exact HB.out | apply below_alloc | apply pw_below_drewN | apply below_drew1 | refine below_set ?_ (IsS79.ge HI216.out) | refine below_set ?_ GE213.out | refine below_set ?_ GE219.out) | exact HB.out)⟩⟩
    ·rw [if_neg c17] at H
     exact absurd H (by simp)
   ·rw [if_neg c14] at H
    have c14b0 : decide (0 < x6_1) = false := decide_eq_false c14
    clear c14
    replace H := Option.bind_eq_some_iff.mp H
    obtain ⟨⟨t229, t230⟩, A240, H⟩ := H
    replace H : (if t229 = true then ((spec_l1Rd_off.f k1 t214 t230 1 5).bind fun bt231 => ((spec_l1Rd_off.f k1 t214 bt231.2 88 120).bind fun bt233 => (some (bt231.1, t217, x220002_1, 0, 0, 0, 0, bt233.1)))) else ((spec_l1Rd_off.f k1 t214 t230 88 120).bind fun bt235 => (some (2, t217, x220002_1, 0, 0, 0, 0, bt235.1)))) = some (r1, r2, r3, r4, r5, r6, r7, r8) := H
    have A24 := Aside0.mk A240
    clear A240
    by_cases c25 : t229 = true
    ·subst c25
     have H1 : ((spec_l1Rd_off.f k1 t214 t230 1 5).bind fun bt231 => ((spec_l1Rd_off.f k1 t214 bt231.2 88 120).bind fun bt233 => (some (bt231.1, t217, x220002_1, 0, 0, 0, 0, bt233.1)))) = some (r1, r2, r3, r4, r5, r6, r7, r8) := by rw [if_pos rfl] at H; exact H
     clear H
     have H := H1
     clear H1
     replace H := Option.bind_eq_some_iff.mp H
     obtain ⟨⟨t231, t232⟩, A260, H⟩ := H
     replace H : ((spec_l1Rd_off.f k1 t214 t232 88 120).bind fun bt233 => (some (t231, t217, x220002_1, 0, 0, 0, 0, bt233.1))) = some (r1, r2, r3, r4, r5, r6, r7, r8) := H
     have A26 := Aside0.mk A260
     clear A260
     replace H := Option.bind_eq_some_iff.mp H
     obtain ⟨⟨t233, t234⟩, A270, H⟩ := H
     replace H : (some (t231, t217, x220002_1, 0, 0, 0, 0, t233)) = some (r1, r2, r3, r4, r5, r6, r7, r8) := H
     have A27 := Aside0.mk A270
     clear A270
     simp only [Option.some.injEq, Prod.mk.injEq] at H
     obtain ⟨rfl, rfl, rfl, rfl, rfl, rfl, rfl, rfl⟩ := H
     try go_wp2_with (first | ((with_reducible refine gate_callee (f := 41) rfl ?_); refine goesL_ (some 35) rfl rfl Try.func41 (by kernel_rfl) rfl #[.pointer (some ⟨g216, 0, none⟩), .int .i64 20] rfl (by (try simp only [List.map_toArray, List.map_cons, List.map_nil]); first | done | rfl | (simp only [List.length_drop, List.length_take]; rfl)) ?_; (with_reducible refine (spec_l1Rd_once.calls g216 t214 x217001_1 20 true t230 w _ ?side1 ?side2 A24.out).mono ?_); (case side1 => repeat (first | (with_reducible first | exact HI216.out | apply IsS79.alloc | apply IsS79.drewN | apply IsS79.drew | apply IsS79.set_1 | refine IsS79.far ?_ NB216_213.out _ | refine IsS79.far ?_ NB216_219.out _) | exact HI216.out)); (case side2 => repeat (first | (with_reducible first | exact HB.out | apply below_alloc | apply pw_below_drewN | apply below_drew1 | refine below_set ?_ (IsS79.ge HI216.out) | refine below_set ?_ GE213.out | refine below_set ?_ GE219.out) | exact HB.out)); rintro e w28 ⟨rfl, hi, hb, hk⟩; refine ⟨_, rfl, ?_⟩; have n0_ := Aside0.mk (Kd.R_mono (Kd.R_keep (IsS79.apart (show IsS79 w _ g216 t214 x217001_1 from by repeat (first | (with_reducible first | exact HI216.out | apply IsS79.alloc | apply IsS79.drewN | apply IsS79.drew | apply IsS79.set_1 | refine IsS79.far ?_ NB216_213.out _ | refine IsS79.far ?_ NB216_219.out _) | exact HI216.out)) (by (with_reducible repeat (first | apply Kd.R_alloc | apply Kd.R_drewN | apply Kd.R_drew)); exact HO_220002.out) (by decide)) hk (fun _ h => h.2)) (fun _ h => h.1)); have n1_ := Aside0.mk (KeepBut.blk hk (g' := gb213) (o := .cells #[.int .i64 0, .bool false, .slice none 0 0, .int .i64 0, .int .i64 0, .int .i64 0, .int .i64 0] 41 (0, 0)) (by (with_reducible repeat (first | refine blk_drewN ?_ _ | refine blk_drew ?_ | refine blk_alloc ?_ _)); exact BK213.out) NB213_216.out (by simp)); have n2_ := Aside0.mk (KeepBut.blk hk (g' := gb219) (o := .cells #[.int .i64 2, .bool t217, u220002, .int .i64 0, .int .i64 0, .int .i64 0, .int .i64 0] 41 (0, 0)) (by (with_reducible repeat (first | refine blk_drewN ?_ _ | refine blk_drew ?_ | refine blk_alloc ?_ _)); exact BK219.out) NB219_216.out (by simp)); have n3_ := Aside0.mk (hb); have n4_ := Aside0.mk (hi); clear HO_220002; clear BK213; clear BK219; clear HB; clear HI216; have HO_220002 := n0_; have BK213 := n1_; have BK219 := n2_; have HB := n3_; have HI216 := n4_; clear n0_ n1_ n2_ n3_ n4_; (try clear hb); (try clear hb2); (try clear hk); (try clear hi)) | ((with_reducible refine gate_callee (f := 52) rfl ?_); refine goesL_ (some 37) rfl rfl Try.func52 (by kernel_rfl) rfl #[.pointer (some ⟨g216, 0, none⟩), .int .i64 1, .int .i64 5] rfl (by (try simp only [List.map_toArray, List.map_cons, List.map_nil]); first | done | rfl | (simp only [List.length_drop, List.length_take]; rfl)) ?_; (with_reducible refine (spec_l1Rd_off.calls k1 g216 t214 t230 1 5 t231 t232 w _ ?side1 ?side2 A26.out).mono ?_); (case side1 => repeat (first | (with_reducible first | exact HI216.out | apply IsS79.alloc | apply IsS79.drewN | apply IsS79.drew | apply IsS79.set_1 | refine IsS79.far ?_ NB216_213.out _ | refine IsS79.far ?_ NB216_219.out _) | exact HI216.out)); (case side2 => repeat (first | (with_reducible first | exact HB.out | apply below_alloc | apply pw_below_drewN | apply below_drew1 | refine below_set ?_ (IsS79.ge HI216.out) | refine below_set ?_ GE213.out | refine below_set ?_ GE219.out) | exact HB.out)); rintro e w29 ⟨rfl, hi, hb, hk⟩; refine ⟨_, rfl, ?_⟩; have n0_ := Aside0.mk (Kd.R_mono (Kd.R_keep (IsS79.apart (show IsS79 w _ g216 t214 t230 from by repeat (first | (with_reducible first | exact HI216.out | apply IsS79.alloc | apply IsS79.drewN | apply IsS79.drew | apply IsS79.set_1 | refine IsS79.far ?_ NB216_213.out _ | refine IsS79.far ?_ NB216_219.out _) | exact HI216.out)) (by (with_reducible repeat (first | apply Kd.R_alloc | apply Kd.R_drewN | apply Kd.R_drew)); exact HO_220002.out) (by decide)) hk (fun _ h => h.2)) (fun _ h => h.1)); have n1_ := Aside0.mk (KeepBut.blk hk (g' := gb213) (o := .cells #[.int .i64 0, .bool false, .slice none 0 0, .int .i64 0, .int .i64 0, .int .i64 0, .int .i64 0] 41 (0, 0)) (by (with_reducible repeat (first | refine blk_drewN ?_ _ | refine blk_drew ?_ | refine blk_alloc ?_ _)); exact BK213.out) NB213_216.out (by simp)); have n2_ := Aside0.mk (KeepBut.blk hk (g' := gb219) (o := .cells #[.int .i64 2, .bool t217, u220002, .int .i64 0, .int .i64 0, .int .i64 0, .int .i64 0] 41 (0, 0)) (by (with_reducible repeat (first | refine blk_drewN ?_ _ | refine blk_drew ?_ | refine blk_alloc ?_ _)); exact BK219.out) NB219_216.out (by simp)); have n3_ := Aside0.mk (hb); have n4_ := Aside0.mk (hi); clear HO_220002; clear BK213; clear BK219; clear HB; clear HI216; have HO_220002 := n0_; have BK213 := n1_; have BK219 := n2_; have HB := n3_; have HI216 := n4_; clear n0_ n1_ n2_ n3_ n4_; (try clear hb); (try clear hb2); (try clear hk); (try clear hi); have hnb30 := NB219_213.out; have hnc30 := NB213_219.out; have hnb31 := NB219_216.out; have hnc31 := NB216_219.out; have hcz32_0 : w29.cell? ⟨gb219, 0, none⟩ = some (.int .i64 2) := (blk_cell BK219.out 0).trans rfl; have hcz32_1 : w29.cell? ⟨gb219, 1, none⟩ = some (.bool t217) := (blk_cell BK219.out 1).trans rfl; have hcz32_2 : w29.cell? ⟨gb219, 2, none⟩ = some (u220002) := (blk_cell BK219.out 2).trans rfl; have hcz32_3 : w29.cell? ⟨gb219, 3, none⟩ = some (.int .i64 0) := (blk_cell BK219.out 3).trans rfl; have hcz32_4 : w29.cell? ⟨gb219, 4, none⟩ = some (.int .i64 0) := (blk_cell BK219.out 4).trans rfl; have hcz32_5 : w29.cell? ⟨gb219, 5, none⟩ = some (.int .i64 0) := (blk_cell BK219.out 5).trans rfl; have hcz32_6 : w29.cell? ⟨gb219, 6, none⟩ = some (.int .i64 0) := (blk_cell BK219.out 6).trans rfl; have hfz32_0 := blk_frozen BK219.out 0; have hfz32_1 := blk_frozen BK219.out 1; have hfz32_2 := blk_frozen BK219.out 2; have hfz32_3 := blk_frozen BK219.out 3; have hfz32_4 := blk_frozen BK219.out 4; have hfz32_5 := blk_frozen BK219.out 5; have hfz32_6 := blk_frozen BK219.out 6))
     have n0_ : Aside0 (Kd.R k68 68 (w29.setCell ⟨gb219, 0, none⟩ (.int .i64 t231)) w.heap.size (fun _ => True) u220002 x220002_1) := ⟨by (with_reducible repeat (first | apply Kd.R_alloc | apply Kd.R_drewN | apply Kd.R_drew)); exact Kd.R_mono (Kd.R_far (p := ⟨gb219, 0, none⟩) (Kd.R_types HO_220002.out BK219.out (by decide)) (fun _ hk => hk.2) (.int .i64 t231)) (fun _ hk => trivial)⟩
     have n1_ : Aside0 ((w29.setCell ⟨gb219, 0, none⟩ (.int .i64 t231)).heap[gb213]? = some (.cells #[.int .i64 0, .bool false, .slice none 0 0, .int .i64 0, .int .i64 0, .int .i64 0, .int .i64 0] 41 (0, 0))) := ⟨by (with_reducible repeat (first | refine blk_drewN ?_ _ | refine blk_drew ?_ | refine blk_alloc ?_ _)); refine blk_far ?_ NB213_219.out _; (with_reducible repeat (first | refine blk_drewN ?_ _ | refine blk_drew ?_ | refine blk_alloc ?_ _)); exact BK213.out⟩
     have n2_ : Aside0 ((w29.setCell ⟨gb219, 0, none⟩ (.int .i64 t231)).heap[gb219]? = some (.cells #[.int .i64 t231, .bool t217, u220002, .int .i64 0, .int .i64 0, .int .i64 0, .int .i64 0] 41 (0, 0))) := ⟨by (with_reducible repeat (first | refine blk_drewN ?_ _ | refine blk_drew ?_ | refine blk_alloc ?_ _)); refine blk_put (cs := #[.int .i64 2, .bool t217, u220002, .int .i64 0, .int .i64 0, .int .i64 0, .int .i64 0]) ?_ 0 _ rfl; (with_reducible repeat (first | refine blk_drewN ?_ _ | refine blk_drew ?_ | refine blk_alloc ?_ _)); exact BK219.out⟩
     have n3_ : Aside0 (IsS79 w (w29.setCell ⟨gb219, 0, none⟩ (.int .i64 t231)) g216 t214 t232) := ⟨by repeat (first | (with_reducible first | exact HI216.out | apply IsS79.alloc | apply IsS79.drewN | apply IsS79.drew | apply IsS79.set_1 | refine IsS79.far ?_ NB216_213.out _ | refine IsS79.far ?_ NB216_219.out _) | exact HI216.out)⟩
     have n4_ : Aside0 (Below w.heap.size w (w29.setCell ⟨gb219, 0, none⟩ (.int .i64 t231))) := ⟨by repeat (first | (with_reducible first | exact HB.out | apply below_alloc | apply pw_below_drewN | apply below_drew1 | refine below_set ?_ (IsS79.ge HI216.out) | refine below_set ?_ GE213.out | refine below_set ?_ GE219.out) | exact HB.out)⟩
     (try clear HO_220002)
     (try clear BK213)
     (try clear BK219)
     (try clear HI216)
     (try clear HB)
     generalize (w29.setCell ⟨gb219, 0, none⟩ (.int .i64 t231)) = w33 at n0_ n1_ n2_ n3_ n4_ ⊢
     have HO_220002 := n0_
     have BK213 := n1_
     have BK219 := n2_
     have HI216 := n3_
     have HB := n4_
     clear n0_ n1_ n2_ n3_ n4_
     have n0_ := Aside0.mk (Kd.R_drew HO_220002.out)
     have n1_ := Aside0.mk (blk_drew BK213.out)
     have n2_ := Aside0.mk (blk_drew BK219.out)
     have n3_ := Aside0.mk (IsS79.drew HI216.out)
     have n4_ := Aside0.mk (below_drew1 HB.out)
     clear HO_220002
     clear BK213
     clear BK219
     clear HI216
     clear HB
     have HO_220002 := n0_
     have BK213 := n1_
     have BK219 := n2_
     have HI216 := n3_
     have HB := n4_
     clear n0_ n1_ n2_ n3_ n4_
     refine start_ (n := 5) (S := fun w' => w'.cell? ⟨gb219, 0, none⟩ = some (.int .i64 t231) ∧ w'.cell? ⟨gb219, 1, none⟩ = some (.bool t217) ∧ w'.cell? ⟨gb219, 2, none⟩ = some (u220002) ∧ w'.cell? ⟨gb219, 3, none⟩ = some (.int .i64 0) ∧ w'.cell? ⟨gb219, 4, none⟩ = some (.int .i64 0) ∧ w'.cell? ⟨gb219, 5, none⟩ = some (.int .i64 0) ∧ w'.cell? ⟨gb219, 6, none⟩ = some (.int .i64 0)) (ds := []) #[false, false, false, false, false] (by kernel_rfl) rfl rfl ⟨(blk_cell BK219.out 0).trans rfl, (blk_cell BK219.out 1).trans rfl, (blk_cell BK219.out 2).trans rfl, (blk_cell BK219.out 3).trans rfl, (blk_cell BK219.out 4).trans rfl, (blk_cell BK219.out 5).trans rfl, (blk_cell BK219.out 6).trans rfl⟩ (fun hHeld => ?_)
     generalize w33.drew = w34 at HO_220002 BK213 BK219 HI216 HB hHeld ⊢
     refine pure_ (i := 1) (N := some 40) (v := ?_) (a' := ?_) #[false, true, false, false, false] rfl rfl (by kernel_rfl) (fun _ _ _ h => h) (Or.inl ⟨by rfl, ?_⟩) ?_ ?_
     rotate_left
     ·intro w'
      go_simp
      with_reducible rfl
     rotate_left
     ·simp only [Act.put, List.setIfInBounds_toArray, List.set_cons_zero, List.set_cons_succ, i64_w, i32_w]
      rfl
     refine take_ (i := 0) (N := some 39) (v := ?_) (a' := ?_) #[true, true, false, false, false] rfl rfl (by kernel_rfl) (fun _ _ _ h => h) (Or.inl ⟨by rfl, ?_⟩) hHeld ?_ ?_
     rotate_left
     ·rintro w' ⟨s0, s1, s2, s3, s4, s5, s6⟩
      go_simp
      with_reducible rfl
     rotate_left
     ·simp only [Act.put, List.setIfInBounds_toArray, List.set_cons_zero, List.set_cons_succ, i64_w, i32_w]
      rfl
     refine one_ (i := 2) (N := some 41) #[true, true, true, false, false] rfl rfl (by kernel_rfl) (by decide) (fun K hK => ?_)
     refine goes_ Try.func52 (by kernel_rfl) rfl #[.pointer (some ⟨g216, 0, none⟩), .int .i64 88, .int .i64 120] (by rfl) rfl rfl (by (try simp only [List.map_toArray, List.map_cons, List.map_nil]); first | done | rfl | (simp only [List.length_drop, List.length_take]; rfl)) ?_
     with_reducible refine (spec_l1Rd_off.calls k1 g216 t214 t232 88 120 t233 t234 w _ ?side1 ?side2 A27.out).mono ?_
     (case side1 => repeat (first | (with_reducible first | exact HI216.out | apply IsS79.alloc | apply IsS79.drewN | apply IsS79.drew | apply IsS79.set_1 | refine IsS79.far ?_ NB216_213.out _ | refine IsS79.far ?_ NB216_219.out _) | exact HI216.out))
     (case side2 => repeat (first | (with_reducible first | exact HB.out | apply below_alloc | apply pw_below_drewN | apply below_drew1 | refine below_set ?_ (IsS79.ge HI216.out) | refine below_set ?_ GE213.out | refine below_set ?_ GE219.out) | exact HB.out))
     rintro e w35 ⟨rfl, hi, hb, hk⟩
     refine ⟨_, rfl, ?_⟩
     have n0_ := Aside0.mk (Kd.R_mono (Kd.R_keep (IsS79.apart (show IsS79 w _ g216 t214 t232 from by repeat (first | (with_reducible first | exact HI216.out | apply IsS79.alloc | apply IsS79.drewN | apply IsS79.drew | apply IsS79.set_1 | refine IsS79.far ?_ NB216_213.out _ | refine IsS79.far ?_ NB216_219.out _) | exact HI216.out)) (by (with_reducible repeat (first | apply Kd.R_alloc | apply Kd.R_drewN | apply Kd.R_drew)); exact HO_220002.out) (by decide)) hk (fun _ h => h.2)) (fun _ h => h.1))
     have n1_ := Aside0.mk (KeepBut.blk hk (g' := gb213) (o := .cells #[.int .i64 0, .bool false, .slice none 0 0, .int .i64 0, .int .i64 0, .int .i64 0, .int .i64 0] 41 (0, 0)) (by (with_reducible repeat (first | refine blk_drewN ?_ _ | refine blk_drew ?_ | refine blk_alloc ?_ _)); exact BK213.out) NB213_216.out (by simp))
     have n2_ := Aside0.mk (KeepBut.blk hk (g' := gb219) (o := .cells #[.int .i64 t231, .bool t217, u220002, .int .i64 0, .int .i64 0, .int .i64 0, .int .i64 0] 41 (0, 0)) (by (with_reducible repeat (first | refine blk_drewN ?_ _ | refine blk_drew ?_ | refine blk_alloc ?_ _)); exact BK219.out) NB219_216.out (by simp))
     have n3_ := Aside0.mk (hb)
     have n4_ := Aside0.mk (hi)
     clear HO_220002
     clear BK213
     clear BK219
     clear HB
     clear HI216
     have HO_220002 := n0_
     have BK213 := n1_
     have BK219 := n2_
     have HB := n3_
     have HI216 := n4_
     clear n0_ n1_ n2_ n3_ n4_
     (try clear hb)
     (try clear hb2)
     (try clear hk)
     (try clear hi)
     obtain ⟨Ao38, co38, eo38⟩ := Kd.R_slice HO_220002.out
     (first | subst eo38 | (injection eo38 with f1_ f2_ f3_; have f4_ := f1_.symm; have f5_ := f3_.symm; clear f1_ f2_ f3_; subst f4_; subst f5_))
     refine hK.out _ _ ⟨(blk_cell BK219.out 0).trans rfl, (blk_cell BK219.out 1).trans rfl, (blk_cell BK219.out 2).trans rfl, (blk_cell BK219.out 3).trans rfl, (blk_cell BK219.out 4).trans rfl, (blk_cell BK219.out 5).trans rfl, (blk_cell BK219.out 6).trans rfl⟩ (fun hHeld => ?_)
     clear hK K
     refine norm_ (a' := ?_) ?_ ?_
     rotate_left
     ·show Act.put _ (some 41) _ = _
      simp only [Act.put, List.setIfInBounds_toArray, List.set_cons_zero, List.set_cons_succ, i64_w, i32_w]
      rfl
     refine one_ (i := 3) (N := none) #[true, true, true, true, false] rfl rfl (by kernel_rfl) (by decide) (fun K hK => ?_)
     have hs36 : w35.cell? ⟨gb213, 0, none⟩ = some (.int .i64 0) := (blk_cell BK213.out 0).trans rfl
     have hfs36 := blk_frozen BK213.out 0
     have hns36_1 := NB219_213.out
     have hms36_1 := NB213_219.out
     have hs37 : w35.cell? ⟨gb213, 1, none⟩ = some (.bool false) := (blk_cell BK213.out 1).trans rfl
     have hfs37 := blk_frozen BK213.out 1
     have hns37_1 := NB219_213.out
     have hms37_1 := NB213_219.out
     have hs39 : w35.cell? ⟨gb213, 2, none⟩ = some (.slice none 0 0) := (blk_cell BK213.out 2).trans rfl
     have hfs39 := blk_frozen BK213.out 2
     have hns39_1 := NB219_213.out
     have hms39_1 := NB213_219.out
     have hs40 : w35.cell? ⟨gb213, 3, none⟩ = some (.int .i64 0) := (blk_cell BK213.out 3).trans rfl
     have hfs40 := blk_frozen BK213.out 3
     have hns40_1 := NB219_213.out
     have hms40_1 := NB213_219.out
     have hs41 : w35.cell? ⟨gb213, 4, none⟩ = some (.int .i64 0) := (blk_cell BK213.out 4).trans rfl
     have hfs41 := blk_frozen BK213.out 4
     have hns41_1 := NB219_213.out
     have hms41_1 := NB213_219.out
     have hs42 : w35.cell? ⟨gb213, 5, none⟩ = some (.int .i64 0) := (blk_cell BK213.out 5).trans rfl
     have hfs42 := blk_frozen BK213.out 5
     have hns42_1 := NB219_213.out
     have hms42_1 := NB213_219.out
     have hs43 : w35.cell? ⟨gb213, 6, none⟩ = some (.int .i64 0) := (blk_cell BK213.out 6).trans rfl
     have hfs43 := blk_frozen BK213.out 6
     have hns43_1 := NB219_213.out
     have hms43_1 := NB213_219.out
     refine skip_ (w1 := ?_) (by rfl) rfl ?_ ?_
     rotate_left
     ·go_simp
      rfl
     refine hK.out _ _ ⟨((cell_far (p := ⟨gb213, _, none⟩) NB219_213.out _).trans (((cell_far (p := ⟨gb213, _, none⟩) NB219_213.out _).trans (((cell_far (p := ⟨gb213, _, none⟩) NB219_213.out _).trans (((cell_far (p := ⟨gb213, _, none⟩) NB219_213.out _).trans (((cell_far (p := ⟨gb213, _, none⟩) NB219_213.out _).trans (((cell_far (p := ⟨gb213, _, none⟩) NB219_213.out _).trans (((cell_far (p := ⟨gb213, _, none⟩) NB219_213.out _).trans (hHeld.1)))))))))))))), ((cell_far (p := ⟨gb213, _, none⟩) NB219_213.out _).trans (((cell_far (p := ⟨gb213, _, none⟩) NB219_213.out _).trans (((cell_far (p := ⟨gb213, _, none⟩) NB219_213.out _).trans (((cell_far (p := ⟨gb213, _, none⟩) NB219_213.out _).trans (((cell_far (p := ⟨gb213, _, none⟩) NB219_213.out _).trans (((cell_far (p := ⟨gb213, _, none⟩) NB219_213.out _).trans (((cell_far (p := ⟨gb213, _, none⟩) NB219_213.out _).trans (hHeld.2.1)))))))))))))), ((cell_far (p := ⟨gb213, _, none⟩) NB219_213.out _).trans (((cell_far (p := ⟨gb213, _, none⟩) NB219_213.out _).trans (((cell_far (p := ⟨gb213, _, none⟩) NB219_213.out _).trans (((cell_far (p := ⟨gb213, _, none⟩) NB219_213.out _).trans (((cell_far (p := ⟨gb213, _, none⟩) NB219_213.out _).trans (((cell_far (p := ⟨gb213, _, none⟩) NB219_213.out _).trans (((cell_far (p := ⟨gb213, _, none⟩) NB219_213.out _).trans (hHeld.2.2.1)))))))))))))), ((cell_far (p := ⟨gb213, _, none⟩) NB219_213.out _).trans (((cell_far (p := ⟨gb213, _, none⟩) NB219_213.out _).trans (((cell_far (p := ⟨gb213, _, none⟩) NB219_213.out _).trans (((cell_far (p := ⟨gb213, _, none⟩) NB219_213.out _).trans (((cell_far (p := ⟨gb213, _, none⟩) NB219_213.out _).trans (((cell_far (p := ⟨gb213, _, none⟩) NB219_213.out _).trans (((cell_far (p := ⟨gb213, _, none⟩) NB219_213.out _).trans (hHeld.2.2.2.1)))))))))))))), ((cell_far (p := ⟨gb213, _, none⟩) NB219_213.out _).trans (((cell_far (p := ⟨gb213, _, none⟩) NB219_213.out _).trans (((cell_far (p := ⟨gb213, _, none⟩) NB219_213.out _).trans (((cell_far (p := ⟨gb213, _, none⟩) NB219_213.out _).trans (((cell_far (p := ⟨gb213, _, none⟩) NB219_213.out _).trans (((cell_far (p := ⟨gb213, _, none⟩) NB219_213.out _).trans (((cell_far (p := ⟨gb213, _, none⟩) NB219_213.out _).trans (hHeld.2.2.2.2.1)))))))))))))), ((cell_far (p := ⟨gb213, _, none⟩) NB219_213.out _).trans (((cell_far (p := ⟨gb213, _, none⟩) NB219_213.out _).trans (((cell_far (p := ⟨gb213, _, none⟩) NB219_213.out _).trans (((cell_far (p := ⟨gb213, _, none⟩) NB219_213.out _).trans (((cell_far (p := ⟨gb213, _, none⟩) NB219_213.out _).trans (((cell_far (p := ⟨gb213, _, none⟩) NB219_213.out _).trans (((cell_far (p := ⟨gb213, _, none⟩) NB219_213.out _).trans (hHeld.2.2.2.2.2.1)))))))))))))), ((cell_far (p := ⟨gb213, _, none⟩) NB219_213.out _).trans (((cell_far (p := ⟨gb213, _, none⟩) NB219_213.out _).trans (((cell_far (p := ⟨gb213, _, none⟩) NB219_213.out _).trans (((cell_far (p := ⟨gb213, _, none⟩) NB219_213.out _).trans (((cell_far (p := ⟨gb213, _, none⟩) NB219_213.out _).trans (((cell_far (p := ⟨gb213, _, none⟩) NB219_213.out _).trans (((cell_far (p := ⟨gb213, _, none⟩) NB219_213.out _).trans (hHeld.2.2.2.2.2.2))))))))))))))⟩ (fun hHeld => ?_)
     clear hK K
     refine pure_ (i := 4) (N := some 3) (v := ?_) (a' := ?_) #[true, true, true, true, true] rfl rfl (by kernel_rfl) (fun _ _ _ h => h) (Or.inl ⟨by rfl, ?_⟩) ?_ ?_
     rotate_left
     ·intro w'
      go_simp
      with_reducible rfl
     rotate_left
     ·simp only [Act.put, List.setIfInBounds_toArray, List.set_cons_zero, List.set_cons_succ, i64_w, i32_w]
      rfl
     refine done_ (by kernel_rfl) ?_
     have n0_ : Aside0 (Kd.R k68 68 (((((((w35.setCell ⟨gb213, 0, none⟩ (.int .i64 t231)).setCell ⟨gb213, 1, none⟩ (.bool t217)).setCell ⟨gb213, 2, none⟩ (.slice Ao38 x220002_1.length co38)).setCell ⟨gb213, 3, none⟩ (.int .i64 0)).setCell ⟨gb213, 4, none⟩ (.int .i64 0)).setCell ⟨gb213, 5, none⟩ (.int .i64 0)).setCell ⟨gb213, 6, none⟩ (.int .i64 0)) w.heap.size (fun _ => True) (.slice Ao38 x220002_1.length co38) x220002_1) := ⟨by (with_reducible repeat (first | apply Kd.R_alloc | apply Kd.R_drewN | apply Kd.R_drew)); exact Kd.R_mono (Kd.R_far (p := ⟨gb213, 6, none⟩) (Kd.R_far (p := ⟨gb213, 5, none⟩) (Kd.R_far (p := ⟨gb213, 4, none⟩) (Kd.R_far (p := ⟨gb213, 3, none⟩) (Kd.R_far (p := ⟨gb213, 2, none⟩) (Kd.R_far (p := ⟨gb213, 1, none⟩) (Kd.R_far (p := ⟨gb213, 0, none⟩) (Kd.R_types HO_220002.out BK213.out (by decide)) (fun _ hk => hk.2) (.int .i64 t231)) (fun _ hk => hk.2) (.bool t217)) (fun _ hk => hk.2) (.slice Ao38 x220002_1.length co38)) (fun _ hk => hk.2) (.int .i64 0)) (fun _ hk => hk.2) (.int .i64 0)) (fun _ hk => hk.2) (.int .i64 0)) (fun _ hk => hk.2) (.int .i64 0)) (fun _ hk => trivial)⟩
     have n1_ : Aside0 ((((((((w35.setCell ⟨gb213, 0, none⟩ (.int .i64 t231)).setCell ⟨gb213, 1, none⟩ (.bool t217)).setCell ⟨gb213, 2, none⟩ (.slice Ao38 x220002_1.length co38)).setCell ⟨gb213, 3, none⟩ (.int .i64 0)).setCell ⟨gb213, 4, none⟩ (.int .i64 0)).setCell ⟨gb213, 5, none⟩ (.int .i64 0)).setCell ⟨gb213, 6, none⟩ (.int .i64 0)).heap[gb213]? = some (.cells #[.int .i64 t231, .bool t217, .slice Ao38 x220002_1.length co38, .int .i64 0, .int .i64 0, .int .i64 0, .int .i64 0] 41 (0, 0))) := ⟨by (with_reducible repeat (first | refine blk_drewN ?_ _ | refine blk_drew ?_ | refine blk_alloc ?_ _)); refine blk_put (cs := #[.int .i64 t231, .bool t217, .slice Ao38 x220002_1.length co38, .int .i64 0, .int .i64 0, .int .i64 0, .int .i64 0]) ?_ 6 _ rfl; (with_reducible repeat (first | refine blk_drewN ?_ _ | refine blk_drew ?_ | refine blk_alloc ?_ _)); refine blk_put (cs := #[.int .i64 t231, .bool t217, .slice Ao38 x220002_1.length co38, .int .i64 0, .int .i64 0, .int .i64 0, .int .i64 0]) ?_ 5 _ rfl; (with_reducible repeat (first | refine blk_drewN ?_ _ | refine blk_drew ?_ | refine blk_alloc ?_ _)); refine blk_put (cs := #[.int .i64 t231, .bool t217, .slice Ao38 x220002_1.length co38, .int .i64 0, .int .i64 0, .int .i64 0, .int .i64 0]) ?_ 4 _ rfl; (with_reducible repeat (first | refine blk_drewN ?_ _ | refine blk_drew ?_ | refine blk_alloc ?_ _)); refine blk_put (cs := #[.int .i64 t231, .bool t217, .slice Ao38 x220002_1.length co38, .int .i64 0, .int .i64 0, .int .i64 0, .int .i64 0]) ?_ 3 _ rfl; (with_reducible repeat (first | refine blk_drewN ?_ _ | refine blk_drew ?_ | refine blk_alloc ?_ _)); refine blk_put (cs := #[.int .i64 t231, .bool t217, .slice none 0 0, .int .i64 0, .int .i64 0, .int .i64 0, .int .i64 0]) ?_ 2 _ rfl; (with_reducible repeat (first | refine blk_drewN ?_ _ | refine blk_drew ?_ | refine blk_alloc ?_ _)); refine blk_put (cs := #[.int .i64 t231, .bool false, .slice none 0 0, .int .i64 0, .int .i64 0, .int .i64 0, .int .i64 0]) ?_ 1 _ rfl; (with_reducible repeat (first | refine blk_drewN ?_ _ | refine blk_drew ?_ | refine blk_alloc ?_ _)); refine blk_put (cs := #[.int .i64 0, .bool false, .slice none 0 0, .int .i64 0, .int .i64 0, .int .i64 0, .int .i64 0]) ?_ 0 _ rfl; (with_reducible repeat (first | refine blk_drewN ?_ _ | refine blk_drew ?_ | refine blk_alloc ?_ _)); exact BK213.out⟩
     have n2_ : Aside0 ((((((((w35.setCell ⟨gb213, 0, none⟩ (.int .i64 t231)).setCell ⟨gb213, 1, none⟩ (.bool t217)).setCell ⟨gb213, 2, none⟩ (.slice Ao38 x220002_1.length co38)).setCell ⟨gb213, 3, none⟩ (.int .i64 0)).setCell ⟨gb213, 4, none⟩ (.int .i64 0)).setCell ⟨gb213, 5, none⟩ (.int .i64 0)).setCell ⟨gb213, 6, none⟩ (.int .i64 0)).heap[gb219]? = some (.cells #[.int .i64 t231, .bool t217, .slice Ao38 x220002_1.length co38, .int .i64 0, .int .i64 0, .int .i64 0, .int .i64 0] 41 (0, 0))) := ⟨by (with_reducible repeat (first | refine blk_drewN ?_ _ | refine blk_drew ?_ | refine blk_alloc ?_ _)); refine blk_far ?_ NB219_213.out _; (with_reducible repeat (first | refine blk_drewN ?_ _ | refine blk_drew ?_ | refine blk_alloc ?_ _)); refine blk_far ?_ NB219_213.out _; (with_reducible repeat (first | refine blk_drewN ?_ _ | refine blk_drew ?_ | refine blk_alloc ?_ _)); refine blk_far ?_ NB219_213.out _; (with_reducible repeat (first | refine blk_drewN ?_ _ | refine blk_drew ?_ | refine blk_alloc ?_ _)); refine blk_far ?_ NB219_213.out _; (with_reducible repeat (first | refine blk_drewN ?_ _ | refine blk_drew ?_ | refine blk_alloc ?_ _)); refine blk_far ?_ NB219_213.out _; (with_reducible repeat (first | refine blk_drewN ?_ _ | refine blk_drew ?_ | refine blk_alloc ?_ _)); refine blk_far ?_ NB219_213.out _; (with_reducible repeat (first | refine blk_drewN ?_ _ | refine blk_drew ?_ | refine blk_alloc ?_ _)); refine blk_far ?_ NB219_213.out _; (with_reducible repeat (first | refine blk_drewN ?_ _ | refine blk_drew ?_ | refine blk_alloc ?_ _)); exact BK219.out⟩
     have n3_ : Aside0 (IsS79 w (((((((w35.setCell ⟨gb213, 0, none⟩ (.int .i64 t231)).setCell ⟨gb213, 1, none⟩ (.bool t217)).setCell ⟨gb213, 2, none⟩ (.slice Ao38 x220002_1.length co38)).setCell ⟨gb213, 3, none⟩ (.int .i64 0)).setCell ⟨gb213, 4, none⟩ (.int .i64 0)).setCell ⟨gb213, 5, none⟩ (.int .i64 0)).setCell ⟨gb213, 6, none⟩ (.int .i64 0)) g216 t214 t234) := ⟨by repeat (first | (with_reducible first | exact HI216.out | apply IsS79.alloc | apply IsS79.drewN | apply IsS79.drew | apply IsS79.set_1 | refine IsS79.far ?_ NB216_213.out _ | refine IsS79.far ?_ NB216_219.out _) | exact HI216.out)⟩
     have n4_ : Aside0 (Below w.heap.size w (((((((w35.setCell ⟨gb213, 0, none⟩ (.int .i64 t231)).setCell ⟨gb213, 1, none⟩ (.bool t217)).setCell ⟨gb213, 2, none⟩ (.slice Ao38 x220002_1.length co38)).setCell ⟨gb213, 3, none⟩ (.int .i64 0)).setCell ⟨gb213, 4, none⟩ (.int .i64 0)).setCell ⟨gb213, 5, none⟩ (.int .i64 0)).setCell ⟨gb213, 6, none⟩ (.int .i64 0))) := ⟨by repeat (first | (with_reducible first | exact HB.out | apply below_alloc | apply pw_below_drewN | apply below_drew1 | refine below_set ?_ (IsS79.ge HI216.out) | refine below_set ?_ GE213.out | refine below_set ?_ GE219.out) | exact HB.out)⟩
     (try clear HO_220002)
     (try clear BK213)
     (try clear BK219)
     (try clear HI216)
     (try clear HB)
     generalize (((((((w35.setCell ⟨gb213, 0, none⟩ (.int .i64 t231)).setCell ⟨gb213, 1, none⟩ (.bool t217)).setCell ⟨gb213, 2, none⟩ (.slice Ao38 x220002_1.length co38)).setCell ⟨gb213, 3, none⟩ (.int .i64 0)).setCell ⟨gb213, 4, none⟩ (.int .i64 0)).setCell ⟨gb213, 5, none⟩ (.int .i64 0)).setCell ⟨gb213, 6, none⟩ (.int .i64 0)) = w44 at n0_ n1_ n2_ n3_ n4_ ⊢
     have HO_220002 := n0_
     have BK213 := n1_
     have BK219 := n2_
     have HI216 := n3_
     have HB := n4_
     clear n0_ n1_ n2_ n3_ n4_
     try go_wp2
     refine bodyPost_ret (results_ct rfl _ _ gb213 41 #[.int .i64 t231, .bool t217, .slice Ao38 x220002_1.length co38, .int .i64 0, .int .i64 0, .int .i64 0, .int .i64 0] (0, 0) _ rfl (by (with_reducible repeat (first | refine blk_drewN ?_ _ | refine blk_drew ?_ | refine blk_alloc ?_ _)); exact BK213.out) Try.underlying41 rfl (by kernel_rfl)) rfl ?_
     exact ⟨_, by first | rfl | (simp [*] <;> rfl), by (with_reducible repeat (first | apply Kd.R_alloc | apply Kd.R_drewN | apply Kd.R_drew)); exact HO_220002.out, by repeat (first | (with_reducible first | exact HB.out | apply below_alloc | apply pw_below_drewN | apply below_drew1 | refine below_set ?_ (IsS79.ge HI216.out) | refine below_set ?_ GE213.out | refine below_set ?_ GE219.out) | exact HB.out)⟩
    ·replace c25 := Bool.eq_false_iff.mpr c25
     subst c25
     have H1 : ((spec_l1Rd_off.f k1 t214 t230 88 120).bind fun bt235 => (some (2, t217, x220002_1, 0, 0, 0, 0, bt235.1))) = some (r1, r2, r3, r4, r5, r6, r7, r8) := by rw [if_neg (show ¬ (false = true) by decide)] at H; exact H
     clear H
     have H := H1
     clear H1
     replace H := Option.bind_eq_some_iff.mp H
     obtain ⟨⟨t235, t236⟩, A450, H⟩ := H
     replace H : (some (2, t217, x220002_1, 0, 0, 0, 0, t235)) = some (r1, r2, r3, r4, r5, r6, r7, r8) := H
     have A45 := Aside0.mk A450
     clear A450
     simp only [Option.some.injEq, Prod.mk.injEq] at H
     obtain ⟨rfl, rfl, rfl, rfl, rfl, rfl, rfl, rfl⟩ := H
     try go_wp2_with (first | ((with_reducible refine gate_callee (f := 41) rfl ?_); refine goesL_ (some 35) rfl rfl Try.func41 (by kernel_rfl) rfl #[.pointer (some ⟨g216, 0, none⟩), .int .i64 20] rfl (by (try simp only [List.map_toArray, List.map_cons, List.map_nil]); first | done | rfl | (simp only [List.length_drop, List.length_take]; rfl)) ?_; (with_reducible refine (spec_l1Rd_once.calls g216 t214 x217001_1 20 false t230 w _ ?side1 ?side2 A24.out).mono ?_); (case side1 => repeat (first | (with_reducible first | exact HI216.out | apply IsS79.alloc | apply IsS79.drewN | apply IsS79.drew | apply IsS79.set_1 | refine IsS79.far ?_ NB216_213.out _ | refine IsS79.far ?_ NB216_219.out _) | exact HI216.out)); (case side2 => repeat (first | (with_reducible first | exact HB.out | apply below_alloc | apply pw_below_drewN | apply below_drew1 | refine below_set ?_ (IsS79.ge HI216.out) | refine below_set ?_ GE213.out | refine below_set ?_ GE219.out) | exact HB.out)); rintro e w46 ⟨rfl, hi, hb, hk⟩; refine ⟨_, rfl, ?_⟩; have n0_ := Aside0.mk (Kd.R_mono (Kd.R_keep (IsS79.apart (show IsS79 w _ g216 t214 x217001_1 from by repeat (first | (with_reducible first | exact HI216.out | apply IsS79.alloc | apply IsS79.drewN | apply IsS79.drew | apply IsS79.set_1 | refine IsS79.far ?_ NB216_213.out _ | refine IsS79.far ?_ NB216_219.out _) | exact HI216.out)) (by (with_reducible repeat (first | apply Kd.R_alloc | apply Kd.R_drewN | apply Kd.R_drew)); exact HO_220002.out) (by decide)) hk (fun _ h => h.2)) (fun _ h => h.1)); have n1_ := Aside0.mk (KeepBut.blk hk (g' := gb213) (o := .cells #[.int .i64 0, .bool false, .slice none 0 0, .int .i64 0, .int .i64 0, .int .i64 0, .int .i64 0] 41 (0, 0)) (by (with_reducible repeat (first | refine blk_drewN ?_ _ | refine blk_drew ?_ | refine blk_alloc ?_ _)); exact BK213.out) NB213_216.out (by simp)); have n2_ := Aside0.mk (KeepBut.blk hk (g' := gb219) (o := .cells #[.int .i64 2, .bool t217, u220002, .int .i64 0, .int .i64 0, .int .i64 0, .int .i64 0] 41 (0, 0)) (by (with_reducible repeat (first | refine blk_drewN ?_ _ | refine blk_drew ?_ | refine blk_alloc ?_ _)); exact BK219.out) NB219_216.out (by simp)); have n3_ := Aside0.mk (hb); have n4_ := Aside0.mk (hi); clear HO_220002; clear BK213; clear BK219; clear HB; clear HI216; have HO_220002 := n0_; have BK213 := n1_; have BK219 := n2_; have HB := n3_; have HI216 := n4_; clear n0_ n1_ n2_ n3_ n4_; (try clear hb); (try clear hb2); (try clear hk); (try clear hi)))
     have n0_ := Aside0.mk (Kd.R_drew HO_220002.out)
     have n1_ := Aside0.mk (blk_drew BK213.out)
     have n2_ := Aside0.mk (blk_drew BK219.out)
     have n3_ := Aside0.mk (IsS79.drew HI216.out)
     have n4_ := Aside0.mk (below_drew1 HB.out)
     clear HO_220002
     clear BK213
     clear BK219
     clear HI216
     clear HB
     have HO_220002 := n0_
     have BK213 := n1_
     have BK219 := n2_
     have HI216 := n3_
     have HB := n4_
     clear n0_ n1_ n2_ n3_ n4_
     refine start_ (n := 5) (S := fun w' => w'.cell? ⟨gb219, 0, none⟩ = some (.int .i64 2) ∧ w'.cell? ⟨gb219, 1, none⟩ = some (.bool t217) ∧ w'.cell? ⟨gb219, 2, none⟩ = some (u220002) ∧ w'.cell? ⟨gb219, 3, none⟩ = some (.int .i64 0) ∧ w'.cell? ⟨gb219, 4, none⟩ = some (.int .i64 0) ∧ w'.cell? ⟨gb219, 5, none⟩ = some (.int .i64 0) ∧ w'.cell? ⟨gb219, 6, none⟩ = some (.int .i64 0)) (ds := []) #[false, false, false, false, false] (by kernel_rfl) rfl rfl ⟨(blk_cell BK219.out 0).trans rfl, (blk_cell BK219.out 1).trans rfl, (blk_cell BK219.out 2).trans rfl, (blk_cell BK219.out 3).trans rfl, (blk_cell BK219.out 4).trans rfl, (blk_cell BK219.out 5).trans rfl, (blk_cell BK219.out 6).trans rfl⟩ (fun hHeld => ?_)
     generalize w46.drew = w47 at HO_220002 BK213 BK219 HI216 HB hHeld ⊢
     refine pure_ (i := 1) (N := some 40) (v := ?_) (a' := ?_) #[false, true, false, false, false] rfl rfl (by kernel_rfl) (fun _ _ _ h => h) (Or.inl ⟨by rfl, ?_⟩) ?_ ?_
     rotate_left
     ·intro w'
      go_simp
      with_reducible rfl
     rotate_left
     ·simp only [Act.put, List.setIfInBounds_toArray, List.set_cons_zero, List.set_cons_succ, i64_w, i32_w]
      rfl
     refine take_ (i := 0) (N := some 39) (v := ?_) (a' := ?_) #[true, true, false, false, false] rfl rfl (by kernel_rfl) (fun _ _ _ h => h) (Or.inl ⟨by rfl, ?_⟩) hHeld ?_ ?_
     rotate_left
     ·rintro w' ⟨s0, s1, s2, s3, s4, s5, s6⟩
      go_simp
      with_reducible rfl
     rotate_left
     ·simp only [Act.put, List.setIfInBounds_toArray, List.set_cons_zero, List.set_cons_succ, i64_w, i32_w]
      rfl
     refine one_ (i := 2) (N := some 41) #[true, true, true, false, false] rfl rfl (by kernel_rfl) (by decide) (fun K hK => ?_)
     refine goes_ Try.func52 (by kernel_rfl) rfl #[.pointer (some ⟨g216, 0, none⟩), .int .i64 88, .int .i64 120] (by rfl) rfl rfl (by (try simp only [List.map_toArray, List.map_cons, List.map_nil]); first | done | rfl | (simp only [List.length_drop, List.length_take]; rfl)) ?_
     with_reducible refine (spec_l1Rd_off.calls k1 g216 t214 t230 88 120 t235 t236 w _ ?side1 ?side2 A45.out).mono ?_
     (case side1 => repeat (first | (with_reducible first | exact HI216.out | apply IsS79.alloc | apply IsS79.drewN | apply IsS79.drew | apply IsS79.set_1 | refine IsS79.far ?_ NB216_213.out _ | refine IsS79.far ?_ NB216_219.out _) | exact HI216.out))
     (case side2 => repeat (first | (with_reducible first | exact HB.out | apply below_alloc | apply pw_below_drewN | apply below_drew1 | refine below_set ?_ (IsS79.ge HI216.out) | refine below_set ?_ GE213.out | refine below_set ?_ GE219.out) | exact HB.out))
     rintro e w48 ⟨rfl, hi, hb, hk⟩
     refine ⟨_, rfl, ?_⟩
     have n0_ := Aside0.mk (Kd.R_mono (Kd.R_keep (IsS79.apart (show IsS79 w _ g216 t214 t230 from by repeat (first | (with_reducible first | exact HI216.out | apply IsS79.alloc | apply IsS79.drewN | apply IsS79.drew | apply IsS79.set_1 | refine IsS79.far ?_ NB216_213.out _ | refine IsS79.far ?_ NB216_219.out _) | exact HI216.out)) (by (with_reducible repeat (first | apply Kd.R_alloc | apply Kd.R_drewN | apply Kd.R_drew)); exact HO_220002.out) (by decide)) hk (fun _ h => h.2)) (fun _ h => h.1))
     have n1_ := Aside0.mk (KeepBut.blk hk (g' := gb213) (o := .cells #[.int .i64 0, .bool false, .slice none 0 0, .int .i64 0, .int .i64 0, .int .i64 0, .int .i64 0] 41 (0, 0)) (by (with_reducible repeat (first | refine blk_drewN ?_ _ | refine blk_drew ?_ | refine blk_alloc ?_ _)); exact BK213.out) NB213_216.out (by simp))
     have n2_ := Aside0.mk (KeepBut.blk hk (g' := gb219) (o := .cells #[.int .i64 2, .bool t217, u220002, .int .i64 0, .int .i64 0, .int .i64 0, .int .i64 0] 41 (0, 0)) (by (with_reducible repeat (first | refine blk_drewN ?_ _ | refine blk_drew ?_ | refine blk_alloc ?_ _)); exact BK219.out) NB219_216.out (by simp))
     have n3_ := Aside0.mk (hb)
     have n4_ := Aside0.mk (hi)
     clear HO_220002
     clear BK213
     clear BK219
     clear HB
     clear HI216
     have HO_220002 := n0_
     have BK213 := n1_
     have BK219 := n2_
     have HB := n3_
     have HI216 := n4_
     clear n0_ n1_ n2_ n3_ n4_
     (try clear hb)
     (try clear hb2)
     (try clear hk)
     (try clear hi)
     obtain ⟨Ao51, co51, eo51⟩ := Kd.R_slice HO_220002.out
     (first | subst eo51 | (injection eo51 with f1_ f2_ f3_; have f4_ := f1_.symm; have f5_ := f3_.symm; clear f1_ f2_ f3_; subst f4_; subst f5_))
     refine hK.out _ _ ⟨(blk_cell BK219.out 0).trans rfl, (blk_cell BK219.out 1).trans rfl, (blk_cell BK219.out 2).trans rfl, (blk_cell BK219.out 3).trans rfl, (blk_cell BK219.out 4).trans rfl, (blk_cell BK219.out 5).trans rfl, (blk_cell BK219.out 6).trans rfl⟩ (fun hHeld => ?_)
     clear hK K
     refine norm_ (a' := ?_) ?_ ?_
     rotate_left
     ·show Act.put _ (some 41) _ = _
      simp only [Act.put, List.setIfInBounds_toArray, List.set_cons_zero, List.set_cons_succ, i64_w, i32_w]
      rfl
     refine one_ (i := 3) (N := none) #[true, true, true, true, false] rfl rfl (by kernel_rfl) (by decide) (fun K hK => ?_)
     have hs49 : w48.cell? ⟨gb213, 0, none⟩ = some (.int .i64 0) := (blk_cell BK213.out 0).trans rfl
     have hfs49 := blk_frozen BK213.out 0
     have hns49_1 := NB219_213.out
     have hms49_1 := NB213_219.out
     have hs50 : w48.cell? ⟨gb213, 1, none⟩ = some (.bool false) := (blk_cell BK213.out 1).trans rfl
     have hfs50 := blk_frozen BK213.out 1
     have hns50_1 := NB219_213.out
     have hms50_1 := NB213_219.out
     have hs52 : w48.cell? ⟨gb213, 2, none⟩ = some (.slice none 0 0) := (blk_cell BK213.out 2).trans rfl
     have hfs52 := blk_frozen BK213.out 2
     have hns52_1 := NB219_213.out
     have hms52_1 := NB213_219.out
     have hs53 : w48.cell? ⟨gb213, 3, none⟩ = some (.int .i64 0) := (blk_cell BK213.out 3).trans rfl
     have hfs53 := blk_frozen BK213.out 3
     have hns53_1 := NB219_213.out
     have hms53_1 := NB213_219.out
     have hs54 : w48.cell? ⟨gb213, 4, none⟩ = some (.int .i64 0) := (blk_cell BK213.out 4).trans rfl
     have hfs54 := blk_frozen BK213.out 4
     have hns54_1 := NB219_213.out
     have hms54_1 := NB213_219.out
     have hs55 : w48.cell? ⟨gb213, 5, none⟩ = some (.int .i64 0) := (blk_cell BK213.out 5).trans rfl
     have hfs55 := blk_frozen BK213.out 5
     have hns55_1 := NB219_213.out
     have hms55_1 := NB213_219.out
     have hs56 : w48.cell? ⟨gb213, 6, none⟩ = some (.int .i64 0) := (blk_cell BK213.out 6).trans rfl
     have hfs56 := blk_frozen BK213.out 6
     have hns56_1 := NB219_213.out
     have hms56_1 := NB213_219.out
     refine skip_ (w1 := ?_) (by rfl) rfl ?_ ?_
     rotate_left
     ·go_simp
      rfl
     refine hK.out _ _ ⟨((cell_far (p := ⟨gb213, _, none⟩) NB219_213.out _).trans (((cell_far (p := ⟨gb213, _, none⟩) NB219_213.out _).trans (((cell_far (p := ⟨gb213, _, none⟩) NB219_213.out _).trans (((cell_far (p := ⟨gb213, _, none⟩) NB219_213.out _).trans (((cell_far (p := ⟨gb213, _, none⟩) NB219_213.out _).trans (((cell_far (p := ⟨gb213, _, none⟩) NB219_213.out _).trans (((cell_far (p := ⟨gb213, _, none⟩) NB219_213.out _).trans (hHeld.1)))))))))))))), ((cell_far (p := ⟨gb213, _, none⟩) NB219_213.out _).trans (((cell_far (p := ⟨gb213, _, none⟩) NB219_213.out _).trans (((cell_far (p := ⟨gb213, _, none⟩) NB219_213.out _).trans (((cell_far (p := ⟨gb213, _, none⟩) NB219_213.out _).trans (((cell_far (p := ⟨gb213, _, none⟩) NB219_213.out _).trans (((cell_far (p := ⟨gb213, _, none⟩) NB219_213.out _).trans (((cell_far (p := ⟨gb213, _, none⟩) NB219_213.out _).trans (hHeld.2.1)))))))))))))), ((cell_far (p := ⟨gb213, _, none⟩) NB219_213.out _).trans (((cell_far (p := ⟨gb213, _, none⟩) NB219_213.out _).trans (((cell_far (p := ⟨gb213, _, none⟩) NB219_213.out _).trans (((cell_far (p := ⟨gb213, _, none⟩) NB219_213.out _).trans (((cell_far (p := ⟨gb213, _, none⟩) NB219_213.out _).trans (((cell_far (p := ⟨gb213, _, none⟩) NB219_213.out _).trans (((cell_far (p := ⟨gb213, _, none⟩) NB219_213.out _).trans (hHeld.2.2.1)))))))))))))), ((cell_far (p := ⟨gb213, _, none⟩) NB219_213.out _).trans (((cell_far (p := ⟨gb213, _, none⟩) NB219_213.out _).trans (((cell_far (p := ⟨gb213, _, none⟩) NB219_213.out _).trans (((cell_far (p := ⟨gb213, _, none⟩) NB219_213.out _).trans (((cell_far (p := ⟨gb213, _, none⟩) NB219_213.out _).trans (((cell_far (p := ⟨gb213, _, none⟩) NB219_213.out _).trans (((cell_far (p := ⟨gb213, _, none⟩) NB219_213.out _).trans (hHeld.2.2.2.1)))))))))))))), ((cell_far (p := ⟨gb213, _, none⟩) NB219_213.out _).trans (((cell_far (p := ⟨gb213, _, none⟩) NB219_213.out _).trans (((cell_far (p := ⟨gb213, _, none⟩) NB219_213.out _).trans (((cell_far (p := ⟨gb213, _, none⟩) NB219_213.out _).trans (((cell_far (p := ⟨gb213, _, none⟩) NB219_213.out _).trans (((cell_far (p := ⟨gb213, _, none⟩) NB219_213.out _).trans (((cell_far (p := ⟨gb213, _, none⟩) NB219_213.out _).trans (hHeld.2.2.2.2.1)))))))))))))), ((cell_far (p := ⟨gb213, _, none⟩) NB219_213.out _).trans (((cell_far (p := ⟨gb213, _, none⟩) NB219_213.out _).trans (((cell_far (p := ⟨gb213, _, none⟩) NB219_213.out _).trans (((cell_far (p := ⟨gb213, _, none⟩) NB219_213.out _).trans (((cell_far (p := ⟨gb213, _, none⟩) NB219_213.out _).trans (((cell_far (p := ⟨gb213, _, none⟩) NB219_213.out _).trans (((cell_far (p := ⟨gb213, _, none⟩) NB219_213.out _).trans (hHeld.2.2.2.2.2.1)))))))))))))), ((cell_far (p := ⟨gb213, _, none⟩) NB219_213.out _).trans (((cell_far (p := ⟨gb213, _, none⟩) NB219_213.out _).trans (((cell_far (p := ⟨gb213, _, none⟩) NB219_213.out _).trans (((cell_far (p := ⟨gb213, _, none⟩) NB219_213.out _).trans (((cell_far (p := ⟨gb213, _, none⟩) NB219_213.out _).trans (((cell_far (p := ⟨gb213, _, none⟩) NB219_213.out _).trans (((cell_far (p := ⟨gb213, _, none⟩) NB219_213.out _).trans (hHeld.2.2.2.2.2.2))))))))))))))⟩ (fun hHeld => ?_)
     clear hK K
     refine pure_ (i := 4) (N := some 3) (v := ?_) (a' := ?_) #[true, true, true, true, true] rfl rfl (by kernel_rfl) (fun _ _ _ h => h) (Or.inl ⟨by rfl, ?_⟩) ?_ ?_
     rotate_left
     ·intro w'
      go_simp
      with_reducible rfl
     rotate_left
     ·simp only [Act.put, List.setIfInBounds_toArray, List.set_cons_zero, List.set_cons_succ, i64_w, i32_w]
      rfl
     refine done_ (by kernel_rfl) ?_
     have n0_ : Aside0 (Kd.R k68 68 (((((((w48.setCell ⟨gb213, 0, none⟩ (.int .i64 2)).setCell ⟨gb213, 1, none⟩ (.bool t217)).setCell ⟨gb213, 2, none⟩ (.slice Ao51 x220002_1.length co51)).setCell ⟨gb213, 3, none⟩ (.int .i64 0)).setCell ⟨gb213, 4, none⟩ (.int .i64 0)).setCell ⟨gb213, 5, none⟩ (.int .i64 0)).setCell ⟨gb213, 6, none⟩ (.int .i64 0)) w.heap.size (fun _ => True) (.slice Ao51 x220002_1.length co51) x220002_1) := ⟨by (with_reducible repeat (first | apply Kd.R_alloc | apply Kd.R_drewN | apply Kd.R_drew)); exact Kd.R_mono (Kd.R_far (p := ⟨gb213, 6, none⟩) (Kd.R_far (p := ⟨gb213, 5, none⟩) (Kd.R_far (p := ⟨gb213, 4, none⟩) (Kd.R_far (p := ⟨gb213, 3, none⟩) (Kd.R_far (p := ⟨gb213, 2, none⟩) (Kd.R_far (p := ⟨gb213, 1, none⟩) (Kd.R_far (p := ⟨gb213, 0, none⟩) (Kd.R_types HO_220002.out BK213.out (by decide)) (fun _ hk => hk.2) (.int .i64 2)) (fun _ hk => hk.2) (.bool t217)) (fun _ hk => hk.2) (.slice Ao51 x220002_1.length co51)) (fun _ hk => hk.2) (.int .i64 0)) (fun _ hk => hk.2) (.int .i64 0)) (fun _ hk => hk.2) (.int .i64 0)) (fun _ hk => hk.2) (.int .i64 0)) (fun _ hk => trivial)⟩
     have n1_ : Aside0 ((((((((w48.setCell ⟨gb213, 0, none⟩ (.int .i64 2)).setCell ⟨gb213, 1, none⟩ (.bool t217)).setCell ⟨gb213, 2, none⟩ (.slice Ao51 x220002_1.length co51)).setCell ⟨gb213, 3, none⟩ (.int .i64 0)).setCell ⟨gb213, 4, none⟩ (.int .i64 0)).setCell ⟨gb213, 5, none⟩ (.int .i64 0)).setCell ⟨gb213, 6, none⟩ (.int .i64 0)).heap[gb213]? = some (.cells #[.int .i64 2, .bool t217, .slice Ao51 x220002_1.length co51, .int .i64 0, .int .i64 0, .int .i64 0, .int .i64 0] 41 (0, 0))) := ⟨by (with_reducible repeat (first | refine blk_drewN ?_ _ | refine blk_drew ?_ | refine blk_alloc ?_ _)); refine blk_put (cs := #[.int .i64 2, .bool t217, .slice Ao51 x220002_1.length co51, .int .i64 0, .int .i64 0, .int .i64 0, .int .i64 0]) ?_ 6 _ rfl; (with_reducible repeat (first | refine blk_drewN ?_ _ | refine blk_drew ?_ | refine blk_alloc ?_ _)); refine blk_put (cs := #[.int .i64 2, .bool t217, .slice Ao51 x220002_1.length co51, .int .i64 0, .int .i64 0, .int .i64 0, .int .i64 0]) ?_ 5 _ rfl; (with_reducible repeat (first | refine blk_drewN ?_ _ | refine blk_drew ?_ | refine blk_alloc ?_ _)); refine blk_put (cs := #[.int .i64 2, .bool t217, .slice Ao51 x220002_1.length co51, .int .i64 0, .int .i64 0, .int .i64 0, .int .i64 0]) ?_ 4 _ rfl; (with_reducible repeat (first | refine blk_drewN ?_ _ | refine blk_drew ?_ | refine blk_alloc ?_ _)); refine blk_put (cs := #[.int .i64 2, .bool t217, .slice Ao51 x220002_1.length co51, .int .i64 0, .int .i64 0, .int .i64 0, .int .i64 0]) ?_ 3 _ rfl; (with_reducible repeat (first | refine blk_drewN ?_ _ | refine blk_drew ?_ | refine blk_alloc ?_ _)); refine blk_put (cs := #[.int .i64 2, .bool t217, .slice none 0 0, .int .i64 0, .int .i64 0, .int .i64 0, .int .i64 0]) ?_ 2 _ rfl; (with_reducible repeat (first | refine blk_drewN ?_ _ | refine blk_drew ?_ | refine blk_alloc ?_ _)); refine blk_put (cs := #[.int .i64 2, .bool false, .slice none 0 0, .int .i64 0, .int .i64 0, .int .i64 0, .int .i64 0]) ?_ 1 _ rfl; (with_reducible repeat (first | refine blk_drewN ?_ _ | refine blk_drew ?_ | refine blk_alloc ?_ _)); refine blk_put (cs := #[.int .i64 0, .bool false, .slice none 0 0, .int .i64 0, .int .i64 0, .int .i64 0, .int .i64 0]) ?_ 0 _ rfl; (with_reducible repeat (first | refine blk_drewN ?_ _ | refine blk_drew ?_ | refine blk_alloc ?_ _)); exact BK213.out⟩
     have n2_ : Aside0 ((((((((w48.setCell ⟨gb213, 0, none⟩ (.int .i64 2)).setCell ⟨gb213, 1, none⟩ (.bool t217)).setCell ⟨gb213, 2, none⟩ (.slice Ao51 x220002_1.length co51)).setCell ⟨gb213, 3, none⟩ (.int .i64 0)).setCell ⟨gb213, 4, none⟩ (.int .i64 0)).setCell ⟨gb213, 5, none⟩ (.int .i64 0)).setCell ⟨gb213, 6, none⟩ (.int .i64 0)).heap[gb219]? = some (.cells #[.int .i64 2, .bool t217, .slice Ao51 x220002_1.length co51, .int .i64 0, .int .i64 0, .int .i64 0, .int .i64 0] 41 (0, 0))) := ⟨by (with_reducible repeat (first | refine blk_drewN ?_ _ | refine blk_drew ?_ | refine blk_alloc ?_ _)); refine blk_far ?_ NB219_213.out _; (with_reducible repeat (first | refine blk_drewN ?_ _ | refine blk_drew ?_ | refine blk_alloc ?_ _)); refine blk_far ?_ NB219_213.out _; (with_reducible repeat (first | refine blk_drewN ?_ _ | refine blk_drew ?_ | refine blk_alloc ?_ _)); refine blk_far ?_ NB219_213.out _; (with_reducible repeat (first | refine blk_drewN ?_ _ | refine blk_drew ?_ | refine blk_alloc ?_ _)); refine blk_far ?_ NB219_213.out _; (with_reducible repeat (first | refine blk_drewN ?_ _ | refine blk_drew ?_ | refine blk_alloc ?_ _)); refine blk_far ?_ NB219_213.out _; (with_reducible repeat (first | refine blk_drewN ?_ _ | refine blk_drew ?_ | refine blk_alloc ?_ _)); refine blk_far ?_ NB219_213.out _; (with_reducible repeat (first | refine blk_drewN ?_ _ | refine blk_drew ?_ | refine blk_alloc ?_ _)); refine blk_far ?_ NB219_213.out _; (with_reducible repeat (first | refine blk_drewN ?_ _ | refine blk_drew ?_ | refine blk_alloc ?_ _)); exact BK219.out⟩
     have n3_ : Aside0 (IsS79 w (((((((w48.setCell ⟨gb213, 0, none⟩ (.int .i64 2)).setCell ⟨gb213, 1, none⟩ (.bool t217)).setCell ⟨gb213, 2, none⟩ (.slice Ao51 x220002_1.length co51)).setCell ⟨gb213, 3, none⟩ (.int .i64 0)).setCell ⟨gb213, 4, none⟩ (.int .i64 0)).setCell ⟨gb213, 5, none⟩ (.int .i64 0)).setCell ⟨gb213, 6, none⟩ (.int .i64 0)) g216 t214 t236) := ⟨by repeat (first | (with_reducible first | exact HI216.out | apply IsS79.alloc | apply IsS79.drewN | apply IsS79.drew | apply IsS79.set_1 | refine IsS79.far ?_ NB216_213.out _ | refine IsS79.far ?_ NB216_219.out _) | exact HI216.out)⟩
     have n4_ : Aside0 (Below w.heap.size w (((((((w48.setCell ⟨gb213, 0, none⟩ (.int .i64 2)).setCell ⟨gb213, 1, none⟩ (.bool t217)).setCell ⟨gb213, 2, none⟩ (.slice Ao51 x220002_1.length co51)).setCell ⟨gb213, 3, none⟩ (.int .i64 0)).setCell ⟨gb213, 4, none⟩ (.int .i64 0)).setCell ⟨gb213, 5, none⟩ (.int .i64 0)).setCell ⟨gb213, 6, none⟩ (.int .i64 0))) := ⟨by repeat (first | (with_reducible first | exact HB.out | apply below_alloc | apply pw_below_drewN | apply below_drew1 | refine below_set ?_ (IsS79.ge HI216.out) | refine below_set ?_ GE213.out | refine below_set ?_ GE219.out) | exact HB.out)⟩
     (try clear HO_220002)
     (try clear BK213)
     (try clear BK219)
     (try clear HI216)
     (try clear HB)
     generalize (((((((w48.setCell ⟨gb213, 0, none⟩ (.int .i64 2)).setCell ⟨gb213, 1, none⟩ (.bool t217)).setCell ⟨gb213, 2, none⟩ (.slice Ao51 x220002_1.length co51)).setCell ⟨gb213, 3, none⟩ (.int .i64 0)).setCell ⟨gb213, 4, none⟩ (.int .i64 0)).setCell ⟨gb213, 5, none⟩ (.int .i64 0)).setCell ⟨gb213, 6, none⟩ (.int .i64 0)) = w57 at n0_ n1_ n2_ n3_ n4_ ⊢
     have HO_220002 := n0_
     have BK213 := n1_
     have BK219 := n2_
     have HI216 := n3_
     have HB := n4_
     clear n0_ n1_ n2_ n3_ n4_
     try go_wp2
     refine bodyPost_ret (results_ct rfl _ _ gb213 41 #[.int .i64 2, .bool t217, .slice Ao51 x220002_1.length co51, .int .i64 0, .int .i64 0, .int .i64 0, .int .i64 0] (0, 0) _ rfl (by (with_reducible repeat (first | refine blk_drewN ?_ _ | refine blk_drew ?_ | refine blk_alloc ?_ _)); exact BK213.out) Try.underlying41 rfl (by kernel_rfl)) rfl ?_
     exact ⟨_, by first | rfl | (simp [*] <;> rfl), by (with_reducible repeat (first | apply Kd.R_alloc | apply Kd.R_drewN | apply Kd.R_drew)); exact HO_220002.out, by repeat (first | (with_reducible first | exact HB.out | apply below_alloc | apply pw_below_drewN | apply below_drew1 | refine below_set ?_ (IsS79.ge HI216.out) | refine below_set ?_ GE213.out | refine below_set ?_ GE219.out) | exact HB.out)⟩

end Go.Proofs.Ytomfhenoblfckaa.PK
