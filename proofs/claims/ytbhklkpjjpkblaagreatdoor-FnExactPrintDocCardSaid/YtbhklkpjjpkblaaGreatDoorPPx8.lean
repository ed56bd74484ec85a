import Derived.Test.YtbhklkpjjpkblaaGreatDoorHShort
import Derived.Test.YtbhklkpjjpkblaaGreatDoorPPx0
import Derived.Test.YtbhklkpjjpkblaaGreatDoorPPx7
namespace Go.Proofs.YtbhklkpjjpkblaaGreatDoor.PP
open Go.RowKit Go.Proofs.YtbhklkpjjpkblaaGreatDoorW.PrintWords Go.Proofs.YtbhklkpjjpkblaaGreatDoorW.PrintLast Go.Proofs.YtbhklkpjjpkblaaGreatDoorW.PrintMore Go.Proofs.YtbhklkpjjpkblaaGreatDoorW.WordsB Go.Proofs.YtbhklkpjjpkblaaGreatDoorW.GlM Go.Proofs.YtbhklkpjjpkblaaGreatDoorW.Short
attribute [local go_sem] max2_int min2_int max_two min_two max_three min_three max_four min_four
set_option linter.unusedVariables false
set_option linter.unusedSimpArgs false
def laws_toItem.f (k : Nat) (a0_0 : Int) (a0_1 : ByteArray) (a0_2 : ByteArray) (l0_3 : List (S70)) : Option (Int × ByteArray × ByteArray × (List (S52))) := (laws_toAttrS.f k l0_3).bind fun t184 => (some (a0_0, a0_1, a0_2, t184))
set_option maxHeartbeats 8000000 in
set_option maxRecDepth 100000 in
theorem laws_toItem.calls (k : Nat) (a0_0 : Int) (a0_1 : ByteArray) (a0_2 : ByteArray) (A0_3 : Option Addr) (c0_3 : Nat) (l0_3 : List (S70)) (r1 : Int) (r2 : ByteArray) (r3 : ByteArray) (r4 : List (S52)) (w : World) (hr0_3 : Kd.C k70 w A0_3 l0_3.length l0_3) (hc0_3 : l0_3.length ≤ c0_3) (h : laws_toItem.f k a0_0 a0_1 a0_2 l0_3 = some (r1, r2, r3, r4)) :
  Calls Tryz.prog 12 #[.agg #[.int .i64 a0_0, .string a0_1, .string a0_2, .slice A0_3 l0_3.length c0_3]] w fun e w' => ∃ v3_ : Value, e = .returned (.agg #[.int .i64 r1, .string r2, .string r3, v3_]) ∧ Kd.R k52 52 w' w.heap.size (fun _ => True) v3_ r4 ∧ Below w.heap.size w w' := by
 have hu33 := Tryz.underlying33
 have hu39 := Tryz.underlying39
 have HR0_3 := Aside0.mk hr0_3
 have HC0_3 := Aside0.mk hc0_3
 clear hr0_3 hc0_3
 have HB := Aside0.mk (Below.refl w.heap.size w)
 have H : ((laws_toAttrS.f k l0_3).bind fun t184 => (some (a0_0, a0_1, a0_2, t184))) = some (r1, r2, r3, r4) := h
 clear h
 replace H := Option.bind_eq_some_iff.mp H
 obtain ⟨t184, A20, H⟩ := H
 replace H : (some (a0_0, a0_1, a0_2, t184)) = some (r1, r2, r3, r4) := H
 have A2 := Aside0.mk A20
 clear A20
 simp only [Option.some.injEq, Prod.mk.injEq] at H
 obtain ⟨rfl, rfl, rfl, rfl⟩ := H
 go_enter Tryz.func12, Tryz.ntmps12
 go_wp2_with (first | ((with_reducible refine gate_dst (N := 1) rfl ?_); refine box_event ?hg (N := 1) ?hd (cs := #[.int .i64 a0_0, .string a0_1, .string a0_2, .slice A0_3 l0_3.length c0_3]) (t := 33) ?hr ?_; (case hd => rfl); (case hg => rfl); (case hr => first | (go_simp; done) | (go_simp; rfl)); intro gb181 hg w3 hbox hb; have n0_ := Aside0.mk (below_step aB hb); have n1_ := Aside0.mk (hbox); have n2_ := Aside0.mk ((by rw [hg]; exact (below_size aB) : w.heap.size ≤ gb181)); have n3_ := Aside0.mk ((by rw [hg]; exact (below_size aB) : w.heap.size ≤ gb181)); clear HB; have HB := n0_; have BK181 := n1_; have GW181 := n2_; have GE181 := n3_; clear n0_ n1_ n2_ n3_; clear hb hbox hg) | ((with_reducible refine gate_dst (N := 2) rfl ?_); refine box_event ?hg (N := 2) ?hd (cs := #[.int .i64 0, .string (⟨#[]⟩ : ByteArray), .string (⟨#[]⟩ : ByteArray), .slice none 0 0]) (t := 39) ?hr ?_; (case hd => rfl); (case hg => rfl); (case hr => first | (go_simp; done) | (go_simp; rfl)); intro gb182 hg w4 hbox hb; have n0_ := Aside0.mk (blk_below (g := gb181) (o := .cells #[.int .i64 a0_0, .string a0_1, .string a0_2, .slice A0_3 l0_3.length c0_3] 33 (0, 0)) (aP BK181.out) hb); have n1_ := Aside0.mk (below_step aE hb); have n2_ := Aside0.mk (hbox); have n3_ := Aside0.mk ((by rw [hg]; exact (below_size aE) : w.heap.size ≤ gb182)); have n4_ := Aside0.mk ((by rw [hg]; exact (below_size aE) : w.heap.size ≤ gb182)); have n5_ := Aside0.mk ((by rw [hg]; exact Nat.ne_of_lt (blk_lt (g := gb181) (o := .cells #[.int .i64 a0_0, .string a0_1, .string a0_2, .slice A0_3 l0_3.length c0_3] 33 (0, 0)) (aP BK181.out)) : gb181 ≠ gb182)); have n6_ := Aside0.mk ((by rw [hg]; exact Nat.ne_of_gt (blk_lt (g := gb181) (o := .cells #[.int .i64 a0_0, .string a0_1, .string a0_2, .slice A0_3 l0_3.length c0_3] 33 (0, 0)) (aP BK181.out)) : gb182 ≠ gb181)); clear BK181; clear HB; have BK181 := n0_; have HB := n1_; have BK182 := n2_; have GW182 := n3_; have GE182 := n4_; have NB181_182 := n5_; have NB182_181 := n6_; clear n0_ n1_ n2_ n3_ n4_ n5_ n6_; clear hb hbox hg) | ((with_reducible refine gate_dst (N := 3) rfl ?_); refine box_event ?hg (N := 3) ?hd (cs := #[.int .i64 0, .string (⟨#[]⟩ : ByteArray), .string (⟨#[]⟩ : ByteArray), .slice none 0 0]) (t := 39) ?hr ?_; (case hd => rfl); (case hg => rfl); (case hr => first | (go_simp; done) | (go_simp; rfl)); intro gb183 hg w5 hbox hb; have n0_ := Aside0.mk (blk_below (g := gb181) (o := .cells #[.int .i64 a0_0, .string a0_1, .string a0_2, .slice A0_3 l0_3.length c0_3] 33 (0, 0)) (aP BK181.out) hb); have n1_ := Aside0.mk (blk_below (g := gb182) (o := .cells #[.int .i64 0, .string (⟨#[]⟩ : ByteArray), .string (⟨#[]⟩ : ByteArray), .slice none 0 0] 39 (0, 0)) (aP BK182.out) hb); have n2_ := Aside0.mk (below_step aE hb); have n3_ := Aside0.mk (hbox); have n4_ := Aside0.mk ((by rw [hg]; exact (below_size aE) : w.heap.size ≤ gb183)); have n5_ := Aside0.mk ((by rw [hg]; exact (below_size aE) : w.heap.size ≤ gb183)); have n6_ := Aside0.mk ((by rw [hg]; exact Nat.ne_of_lt (blk_lt (g := gb181) (o := .cells #[.int .i64 a0_0, .string a0_1, .string a0_2, .slice A0_3 l0_3.length c0_3] 33 (0, 0)) (aP BK181.out)) : gb181 ≠ gb183)); have n7_ := Aside0.mk ((by rw [hg]; exact Nat.ne_of_gt (blk_lt (g := gb181) (o := .cells #[.int .i64 a0_0, .string a0_1, .string a0_2, .slice A0_3 l0_3.length c0_3] 33 (0, 0)) (aP BK181.out)) : gb183 ≠ gb181)); have n8_ := Aside0.mk ((by rw [hg]; exact Nat.ne_of_lt (blk_lt (g := gb182) (o := .cells #[.int .i64 0, .string (⟨#[]⟩ : ByteArray), .string (⟨#[]⟩ : ByteArray), .slice none 0 0] 39 (0, 0)) (aP BK182.out)) : gb182 ≠ gb183)); have n9_ := Aside0.mk ((by rw [hg]; exact Nat.ne_of_gt (blk_lt (g := gb182) (o := .cells #[.int .i64 0, .string (⟨#[]⟩ : ByteArray), .string (⟨#[]⟩ : ByteArray), .slice none 0 0] 39 (0, 0)) (aP BK182.out)) : gb183 ≠ gb182)); clear BK181; clear BK182; clear HB; have BK181 := n0_; have BK182 := n1_; have HB := n2_; have BK183 := n3_; have GW183 := n4_; have GE183 := n5_; have NB181_183 := n6_; have NB183_181 := n7_; have NB182_183 := n8_; have NB183_182 := n9_; clear n0_ n1_ n2_ n3_ n4_ n5_ n6_ n7_ n8_ n9_; clear hb hbox hg; have hnb6 := NB181_182.out; have hnc6 := NB182_181.out; have hnb7 := NB181_183.out; have hnc7 := NB183_181.out; have hcz8_0 : w5.cell? ⟨gb181, 0, none⟩ = some (.int .i64 a0_0) := (blk_cell BK181.out 0).trans rfl; have hcz8_1 : w5.cell? ⟨gb181, 1, none⟩ = some (.string a0_1) := (blk_cell BK181.out 1).trans rfl; have hcz8_2 : w5.cell? ⟨gb181, 2, none⟩ = some (.string a0_2) := (blk_cell BK181.out 2).trans rfl; have hcz8_3 : w5.cell? ⟨gb181, 3, none⟩ = some (.slice A0_3 l0_3.length c0_3) := (blk_cell BK181.out 3).trans rfl; have hfz8_0 := blk_frozen BK181.out 0; have hfz8_1 := blk_frozen BK181.out 1; have hfz8_2 := blk_frozen BK181.out 2; have hfz8_3 := blk_frozen BK181.out 3; have hnb9 := NB183_182.out; have hnc9 := NB182_183.out; have hcz10_0 : w5.cell? ⟨gb183, 0, none⟩ = some (.int .i64 0) := (blk_cell BK183.out 0).trans rfl; have hcz10_1 : w5.cell? ⟨gb183, 1, none⟩ = some (.string (⟨#[]⟩ : ByteArray)) := (blk_cell BK183.out 1).trans rfl; have hcz10_2 : w5.cell? ⟨gb183, 2, none⟩ = some (.string (⟨#[]⟩ : ByteArray)) := (blk_cell BK183.out 2).trans rfl; have hcz10_3 : w5.cell? ⟨gb183, 3, none⟩ = some (.slice none 0 0) := (blk_cell BK183.out 3).trans rfl; have hfz10_0 := blk_frozen BK183.out 0; have hfz10_1 := blk_frozen BK183.out 1; have hfz10_2 := blk_frozen BK183.out 2; have hfz10_3 := blk_frozen BK183.out 3) | ((with_reducible refine gate_store (t := 9) (p := 12) rfl ?_); refine store_event (t := 9) (p := 12) (v := ?vo_w11) (w1 := (((w5.setCell ⟨gb183, 0, none⟩ (.int .i64 a0_0)).setCell ⟨gb183, 1, none⟩ (.string a0_1)).setCell ⟨gb183, 2, none⟩ (.string a0_2))) ?hg ?ho ?hn ?hr ?_; (case ho => rfl); (case hg => rfl); (case hn => rfl); (case hr => first | (go_simp; done) | (go_simp; rfl)); intro w11 hw; have n0_ : Aside0 (w11.heap[gb181]? = some (.cells #[.int .i64 a0_0, .string a0_1, .string a0_2, .slice A0_3 l0_3.length c0_3] 33 (0, 0))) := ⟨(by rw [hw]; exact (by (with_reducible repeat (first | apply d1 | apply d2 | apply d3)); refine blk_far ?_ NB181_183.out _; (with_reducible repeat (first | apply d1 | apply d2 | apply d3)); refine blk_far ?_ NB181_183.out _; (with_reducible repeat (first | apply d1 | apply d2 | apply d3)); refine blk_far ?_ NB181_183.out _; (with_reducible repeat (first | apply d1 | apply d2 | apply d3)); exact BK181.out))⟩; have n1_ : Aside0 (w11.heap[gb182]? = some (.cells #[.int .i64 0, .string (⟨#[]⟩ : ByteArray), .string (⟨#[]⟩ : ByteArray), .slice none 0 0] 39 (0, 0))) := ⟨(by rw [hw]; exact (by (with_reducible repeat (first | apply d1 | apply d2 | apply d3)); refine blk_far ?_ NB182_183.out _; (with_reducible repeat (first | apply d1 | apply d2 | apply d3)); refine blk_far ?_ NB182_183.out _; (with_reducible repeat (first | apply d1 | apply d2 | apply d3)); refine blk_far ?_ NB182_183.out _; (with_reducible repeat (first | apply d1 | apply d2 | apply d3)); exact BK182.out))⟩; have n2_ : Aside0 (w11.heap[gb183]? = some (.cells #[.int .i64 a0_0, .string a0_1, .string a0_2, .slice none 0 0] 39 (0, 0))) := ⟨(by rw [hw]; exact (by (with_reducible repeat (first | apply d1 | apply d2 | apply d3)); refine blk_put (cs := #[.int .i64 a0_0, .string a0_1, .string (⟨#[]⟩ : ByteArray), .slice none 0 0]) ?_ 2 _ rfl; (with_reducible repeat (first | apply d1 | apply d2 | apply d3)); refine blk_put (cs := #[.int .i64 a0_0, .string (⟨#[]⟩ : ByteArray), .string (⟨#[]⟩ : ByteArray), .slice none 0 0]) ?_ 1 _ rfl; (with_reducible repeat (first | apply d1 | apply d2 | apply d3)); refine blk_put (cs := #[.int .i64 0, .string (⟨#[]⟩ : ByteArray), .string (⟨#[]⟩ : ByteArray), .slice none 0 0]) ?_ 0 _ rfl; (with_reducible repeat (first | apply d1 | apply d2 | apply d3)); exact BK183.out))⟩; have n3_ : Aside0 (Below w.heap.size w w11) := ⟨(by rw [hw]; exact aE)⟩; clear hw; clear BK181; clear BK182; clear BK183; clear HB; have BK181 := n0_; have BK182 := n1_; have BK183 := n2_; have HB := n3_; clear n0_ n1_ n2_ n3_; have hcz12_0 : w11.cell? ⟨gb181, 0, none⟩ = some (.int .i64 a0_0) := (blk_cell BK181.out 0).trans rfl; have hcz12_1 : w11.cell? ⟨gb181, 1, none⟩ = some (.string a0_1) := (blk_cell BK181.out 1).trans rfl; have hcz12_2 : w11.cell? ⟨gb181, 2, none⟩ = some (.string a0_2) := (blk_cell BK181.out 2).trans rfl; have hcz12_3 : w11.cell? ⟨gb181, 3, none⟩ = some (.slice A0_3 l0_3.length c0_3) := (blk_cell BK181.out 3).trans rfl; have hfz12_0 := blk_frozen BK181.out 0; have hfz12_1 := blk_frozen BK181.out 1; have hfz12_2 := blk_frozen BK181.out 2; have hfz12_3 := blk_frozen BK181.out 3) | ((with_reducible refine gate_callee (f := 25) rfl ?_); refine goesL_ (some 15) rfl rfl Tryz.func25 (by kernel_rfl) rfl #[.slice A0_3 l0_3.length c0_3] rfl aG ?_; (with_reducible refine (laws_toAttrS.calls k _ _ l0_3 t184 _ ?side1 ?side2 A2.out).mono ?_); (case side1 => repeat (first | exact (Kd.C_below HR0_3.out HB.out) | (with_reducible refine Kd.C_alloc ?_ _) | (with_reducible refine Kd.C_drewN ?_ _) | (with_reducible refine Kd.C_drew ?_))); (case side2 => exact HC0_3.out); rintro e w13 ⟨v185, rfl, ho0, hb⟩; refine ⟨_, rfl, ?_⟩; have n0_ := Aside0.mk (Kd.R_lower ho0 (below_size aE)); have n1_ := Aside0.mk (blk_below (g := gb181) (o := .cells #[.int .i64 a0_0, .string a0_1, .string a0_2, .slice A0_3 l0_3.length c0_3] 33 (0, 0)) (aP BK181.out) hb); have n2_ := Aside0.mk (blk_below (g := gb182) (o := .cells #[.int .i64 0, .string (⟨#[]⟩ : ByteArray), .string (⟨#[]⟩ : ByteArray), .slice none 0 0] 39 (0, 0)) (aP BK182.out) hb); have n3_ := Aside0.mk (blk_below (g := gb183) (o := .cells #[.int .i64 a0_0, .string a0_1, .string a0_2, .slice none 0 0] 39 (0, 0)) (aP BK183.out) hb); have n4_ := Aside0.mk (below_step aE hb); clear BK181; clear BK182; clear BK183; clear HB; have HO186 := n0_; have BK181 := n1_; have BK182 := n2_; have BK183 := n3_; have HB := n4_; clear n0_ n1_ n2_ n3_ n4_; (try clear hb); (try clear hb2); (try clear hk); (try clear hi); (try clear ho0); obtain ⟨Ao14, co14, eo14⟩ := Kd.R_slice HO186.out; subst eo14; have hcz15_0 : w13.cell? ⟨gb183, 0, none⟩ = some (.int .i64 a0_0) := (blk_cell BK183.out 0).trans rfl; have hcz15_1 : w13.cell? ⟨gb183, 1, none⟩ = some (.string a0_1) := (blk_cell BK183.out 1).trans rfl; have hcz15_2 : w13.cell? ⟨gb183, 2, none⟩ = some (.string a0_2) := (blk_cell BK183.out 2).trans rfl; have hcz15_3 : w13.cell? ⟨gb183, 3, none⟩ = some (.slice none 0 0) := (blk_cell BK183.out 3).trans rfl; have hfz15_0 := blk_frozen BK183.out 0; have hfz15_1 := blk_frozen BK183.out 1; have hfz15_2 := blk_frozen BK183.out 2; have hfz15_3 := blk_frozen BK183.out 3; have hcz16_0 : w13.cell? ⟨gb182, 0, none⟩ = some (.int .i64 0) := (blk_cell BK182.out 0).trans rfl; have hcz16_1 : w13.cell? ⟨gb182, 1, none⟩ = some (.string (⟨#[]⟩ : ByteArray)) := (blk_cell BK182.out 1).trans rfl; have hcz16_2 : w13.cell? ⟨gb182, 2, none⟩ = some (.string (⟨#[]⟩ : ByteArray)) := (blk_cell BK182.out 2).trans rfl; have hcz16_3 : w13.cell? ⟨gb182, 3, none⟩ = some (.slice none 0 0) := (blk_cell BK182.out 3).trans rfl; have hfz16_0 := blk_frozen BK182.out 0; have hfz16_1 := blk_frozen BK182.out 1; have hfz16_2 := blk_frozen BK182.out 2; have hfz16_3 := blk_frozen BK182.out 3) | ((with_reducible refine gate_store (t := 39) (p := 2) rfl ?_); refine store_event (t := 39) (p := 2) (v := ?vo_w17) (w1 := (((((w13.setCell ⟨gb183, 3, none⟩ (.slice Ao14 t184.length co14)).setCell ⟨gb182, 0, none⟩ (.int .i64 a0_0)).setCell ⟨gb182, 1, none⟩ (.string a0_1)).setCell ⟨gb182, 2, none⟩ (.string a0_2)).setCell ⟨gb182, 3, none⟩ (.slice Ao14 t184.length co14))) ?hg ?ho ?hn ?hr ?_; (case ho => rfl); (case hg => rfl); (case hn => rfl); (case hr => first | (go_simp; done) | (go_simp; rfl)); intro w17 hw; have n0_ : Aside0 (Kd.R k52 52 w17 w.heap.size (fun _ => True) (.slice Ao14 t184.length co14) t184) := ⟨(by rw [hw]; exact (by (with_reducible repeat (first | apply Kd.R_alloc | apply Kd.R_drewN | apply Kd.R_drew)); exact Kd.R_mono (Kd.R_far (p := ⟨gb182, 3, none⟩) (Kd.R_far (p := ⟨gb182, 2, none⟩) (Kd.R_far (p := ⟨gb182, 1, none⟩) (Kd.R_far (p := ⟨gb182, 0, none⟩) (Kd.R_far (p := ⟨gb183, 3, none⟩) (Kd.R_types (Kd.R_types HO186.out BK183.out (by decide)) BK182.out (by decide)) (fun _ hk => hk.1.2) (.slice Ao14 t184.length co14)) (fun _ hk => hk.2) (.int .i64 a0_0)) (fun _ hk => hk.2) (.string a0_1)) (fun _ hk => hk.2) (.string a0_2)) (fun _ hk => hk.2) (.slice Ao14 t184.length co14)) (fun _ hk => trivial)))⟩; have n1_ : Aside0 (w17.heap[gb181]? = some (.cells #[.int .i64 a0_0, .string a0_1, .string a0_2, .slice A0_3 l0_3.length c0_3] 33 (0, 0))) := ⟨(by rw [hw]; exact (by (with_reducible repeat (first | apply d1 | apply d2 | apply d3)); refine blk_far ?_ NB181_182.out _; (with_reducible repeat (first | apply d1 | apply d2 | apply d3)); refine blk_far ?_ NB181_182.out _; (with_reducible repeat (first | apply d1 | apply d2 | apply d3)); refine blk_far ?_ NB181_182.out _; (with_reducible repeat (first | apply d1 | apply d2 | apply d3)); refine blk_far ?_ NB181_182.out _; (with_reducible repeat (first | apply d1 | apply d2 | apply d3)); refine blk_far ?_ NB181_183.out _; (with_reducible repeat (first | apply d1 | apply d2 | apply d3)); exact BK181.out))⟩; have n2_ : Aside0 (w17.heap[gb182]? = some (.cells #[.int .i64 a0_0, .string a0_1, .string a0_2, .slice Ao14 t184.length co14] 39 (0, 0))) := ⟨(by rw [hw]; exact (by (with_reducible repeat (first | apply d1 | apply d2 | apply d3)); refine blk_put (cs := #[.int .i64 a0_0, .string a0_1, .string a0_2, .slice none 0 0]) ?_ 3 _ rfl; (with_reducible repeat (first | apply d1 | apply d2 | apply d3)); refine blk_put (cs := #[.int .i64 a0_0, .string a0_1, .string (⟨#[]⟩ : ByteArray), .slice none 0 0]) ?_ 2 _ rfl; (with_reducible repeat (first | apply d1 | apply d2 | apply d3)); refine blk_put (cs := #[.int .i64 a0_0, .string (⟨#[]⟩ : ByteArray), .string (⟨#[]⟩ : ByteArray), .slice none 0 0]) ?_ 1 _ rfl; (with_reducible repeat (first | apply d1 | apply d2 | apply d3)); refine blk_put (cs := #[.int .i64 0, .string (⟨#[]⟩ : ByteArray), .string (⟨#[]⟩ : ByteArray), .slice none 0 0]) ?_ 0 _ rfl; (with_reducible repeat (first | apply d1 | apply d2 | apply d3)); refine blk_far ?_ NB182_183.out _; (with_reducible repeat (first | apply d1 | apply d2 | apply d3)); exact BK182.out))⟩; have n3_ : Aside0 (w17.heap[gb183]? = some (.cells #[.int .i64 a0_0, .string a0_1, .string a0_2, .slice Ao14 t184.length co14] 39 (0, 0))) := ⟨(by rw [hw]; exact (by (with_reducible repeat (first | apply d1 | apply d2 | apply d3)); refine blk_far ?_ NB183_182.out _; (with_reducible repeat (first | apply d1 | apply d2 | apply d3)); refine blk_far ?_ NB183_182.out _; (with_reducible repeat (first | apply d1 | apply d2 | apply d3)); refine blk_far ?_ NB183_182.out _; (with_reducible repeat (first | apply d1 | apply d2 | apply d3)); refine blk_far ?_ NB183_182.out _; (with_reducible repeat (first | apply d1 | apply d2 | apply d3)); refine blk_put (cs := #[.int .i64 a0_0, .string a0_1, .string a0_2, .slice none 0 0]) ?_ 3 _ rfl; (with_reducible repeat (first | apply d1 | apply d2 | apply d3)); exact BK183.out))⟩; have n4_ : Aside0 (Below w.heap.size w w17) := ⟨(by rw [hw]; exact aE)⟩; clear hw; clear HO186; clear BK181; clear BK182; clear BK183; clear HB; have HO186 := n0_; have BK181 := n1_; have BK182 := n2_; have BK183 := n3_; have HB := n4_; clear n0_ n1_ n2_ n3_ n4_))
 refine bodyPost_ret (results_cell_row rfl _ _ gb182 39 #[.int .i64 a0_0, .string a0_1, .string a0_2, .slice Ao14 t184.length co14] (0, 0) _ rfl (aP BK182.out) Tryz.underlying39 rfl (by kernel_rfl)) rfl ?_
 exact ⟨_, by first | rfl | (simp [*] <;> rfl), by (with_reducible repeat (first | apply Kd.R_alloc | apply Kd.R_drewN | apply Kd.R_drew)); exact HO186.out, aE⟩
def laws_toItemS.l0 : Nat → List (S33) → List (S39) → Int → Option ((List (S39)))
 | 0, _, _, _ => none
 | k + 1, x0, x3, x4 => if x4 < (x0.length : Int) then (if 0 ≤ x4 then ((laws_toItem.f k ((rd_T33 x0 x4).f0) ((rd_T33 x0 x4).f1) ((rd_T33 x0 x4).f2) ((rd_T33 x0 x4).f3)).bind fun bt191 => (if x4 < (x3.length : Int) then (laws_toItemS.l0 k x0 (x3.set (x4 : Int).toNat (⟨bt191.1, bt191.2.1, bt191.2.2.1, bt191.2.2.2⟩ : S39)) (wrap64 (x4 + 1))) else (none))) else (none)) else (some x3)
def laws_toItemS.f (k : Nat) (l0 : List (S33)) : Option ((List (S39))) := if 0 ≤ (l0.length : Int) then (if ((l0.length : Int) : Int).toNat ≤ 4398046511104 then (laws_toItemS.l0 k l0 (List.replicate ((l0.length : Int) : Int).toNat z39) 0) else (none)) else (none)
set_option maxHeartbeats 8000000 in
set_option maxRecDepth 100000 in
theorem laws_toItemS.calls (k : Nat) (A0 : Option Addr) (c0 : Nat) (l0 : List (S33)) (r : List (S39)) (w : World) (hr0 : Kd.C k33 w A0 l0.length l0) (hc0 : l0.length ≤ c0) (h : laws_toItemS.f k l0 = some r) :
  Calls Tryz.prog 6 #[.slice A0 l0.length c0] w fun e w' => ∃ v0_ : Value, e = .returned (v0_) ∧ Kd.S k39 39 w' w.heap.size (fun _ => True) v0_ r ∧ Below w.heap.size w w' := by
 have hu33 := Tryz.underlying33
 have hu39 := Tryz.underlying39
 have HR0 := Aside0.mk hr0
 have HC0 := Aside0.mk hc0
 clear hr0 hc0
 have HB := Aside0.mk (Below.refl w.heap.size w)
 have H : (if 0 ≤ (l0.length : Int) then (if ((l0.length : Int) : Int).toNat ≤ 4398046511104 then (laws_toItemS.l0 k l0 (List.replicate ((l0.length : Int) : Int).toNat z39) 0) else (none)) else (none)) = some r := h
 clear h
 by_cases c2 : 0 ≤ (l0.length : Int)
 rotate_left
 ·rw [if_neg c2] at H
  exact absurd H (by simp)
 rw [if_pos c2] at H
 have c2b0 := eq_true c2
 have c2b1 : decide (0 ≤ (l0.length : Int)) = true := decide_eq_true c2
 clear c2
 by_cases c3 : ((l0.length : Int) : Int).toNat ≤ 4398046511104
 rotate_left
 ·rw [if_neg c3] at H
  exact absurd H (by simp)
 rw [if_pos c3] at H
 have c3b0 := eq_true c3
 have c3b1 : decide (((l0.length : Int) : Int).toNat ≤ 4398046511104) = true := decide_eq_true c3
 clear c3
 obtain ⟨y187, hy187⟩ : ∃ y_ : List (S39), y_ = (List.replicate ((l0.length : Int) : Int).toNat z39) := ⟨_, rfl⟩
 replace H : (laws_toItemS.l0 k l0 y187 0) = some r := by first | (rw [hy187]; with_reducible exact H) | (have H2_ := (Option.bind_some _ _).symm.trans H; rw [hy187]; with_reducible exact H2_) | (have H2_ := (Option.bind_some _ _).symm.trans H; with_reducible exact H2_) | with_reducible exact H | (rw [hy187]; exact H) | exact H
 have Ny187 := Aside0.mk hy187
 clear hy187
 have H' := Aside0.mk H
 clear H
 go_enter Tryz.func6, Tryz.ntmps6
 go_wp2_with (first | ((with_reducible refine gate_dst (N := 7) rfl ?_); refine Kd.S_make k39 _ 39 rfl (N := 7) rfl 26 _ _ rfl (l0.length : Int) rfl rfl Tryz.underlying26 (.agg #[(.int .i64 0), (.string ⟨#[]⟩), (.string ⟨#[]⟩), (.slice none 0 0)]) 64 info39 rfl (by decide) (by omega) z39 (ok := fun _ => True) (okp := fun _ => True) (k39_mkM _ _ _ z39 (Kd.R_nil _ _ _ _ _)) (fun _ hk => hk) trivial (aD) (Nat.le_trans (Nat.mul_le_mul_right _ (aD : (l0.length : Int).toNat ≤ 4398046511104)) (by omega)) (Below.refl _ _) (Nat.le_refl _) ?_; intro v188 w4 ho5 hb hg_ hnew_; clear hg_ hnew_; (first | rw [← Ny187.out] at ho5 | (simp only [Int.reduceToNat] at ho5; rw [← Ny187.out] at ho5)); have n0_ := Aside0.mk (Kd.S_lower ho5 (below_size aB)); have n1_ := Aside0.mk (below_step aB hb); clear HB; have HO189 := n0_; have HB := n1_; clear n0_ n1_; clear hb ho5))
 go_loopg [4] k (fun kq v4 w' => ∃ (x3_1 : List (S39)) (x4_1 : Int), v4 = .int .i64 x4_1 ∧ Aside0 (laws_toItemS.l0 kq l0 x3_1 x4_1 = some r) ∧ Aside0 (kq ≤ k) ∧ Aside0 (Kd.S k39 39 w' w.heap.size (fun _ => True) v188 x3_1) ∧ Aside0 (Below w.heap.size w w'))
 case atStart => exact ⟨(y187), (0), aR, H', ⟨Nat.le_refl _⟩, ⟨by (with_reducible repeat (first | apply Kd.S_alloc | apply Kd.S_drewN | apply Kd.S_drew)); exact HO189.out⟩, ⟨aB⟩⟩
 case round =>
  clear H'
  try clear c2
  try clear c2b0
  try clear c2b1
  try clear p2
  try clear c3
  try clear c3b0
  try clear c3b1
  obtain ⟨x3_1, x4_1, rfl, HA, HK1, HO_3, HB⟩ := hrel
  cases gk with
  | zero => exact absurd HA.out (by simp [laws_toItemS.l0])
  | succ k1 =>
   have H := HA.out
   clear HA
   simp only [laws_toItemS.l0] at H
   by_cases c6 : x4_1 < (l0.length : Int)
   rotate_left
   ·rw [if_neg c6] at H
    have c6b0 : decide (x4_1 < (l0.length : Int)) = false := decide_eq_false c6
    clear c6
    obtain rfl := Option.some.inj H
    go_wp2
    go_ret
    exact ⟨_, by first | rfl | (simp [*] <;> rfl), by (with_reducible repeat (first | apply Kd.S_alloc | apply Kd.S_drewN | apply Kd.S_drew)); exact HO_3.out, aB⟩
   rw [if_pos c6] at H
   have c6b0 : decide (x4_1 < (l0.length : Int)) = true := decide_eq_true c6
   clear c6
   by_cases c7 : 0 ≤ x4_1
   rotate_left
   ·rw [if_neg c7] at H
    exact absurd H (by simp)
   rw [if_pos c7] at H
   have c7b0 : decide (0 ≤ x4_1) = true := decide_eq_true c7
   clear c7
   replace H := Option.bind_eq_some_iff.mp H
   obtain ⟨⟨t191, t192, t193, t194⟩, A80, H⟩ := H
   replace H : (if x4_1 < (x3_1.length : Int) then (laws_toItemS.l0 k1 l0 (x3_1.set (x4_1 : Int).toNat (⟨t191, t192, t193, t194⟩ : S39)) (wrap64 (x4_1 + 1))) else (none)) = some r := H
   have A8 := Aside0.mk A80
   clear A80
   by_cases c9 : x4_1 < (x3_1.length : Int)
   rotate_left
   ·rw [if_neg c9] at H
    exact absurd H (by simp)
   rw [if_pos c9] at H
   have c9b0 : decide (x4_1 < (x3_1.length : Int)) = true := decide_eq_true c9
   clear c9
   obtain ⟨y197, hy197⟩ : ∃ y_ : List (S39), y_ = (x3_1.set (x4_1 : Int).toNat (⟨t191, t192, t193, t194⟩ : S39)) := ⟨_, rfl⟩
   replace H : (laws_toItemS.l0 k1 l0 y197 (wrap64 (x4_1 + 1))) = some r := by first | (rw [hy197]; with_reducible exact H) | (have H2_ := (Option.bind_some _ _).symm.trans H; rw [hy197]; with_reducible exact H2_) | (have H2_ := (Option.bind_some _ _).symm.trans H; with_reducible exact H2_) | with_reducible exact H | (rw [hy197]; exact H) | exact H
   have Ny197 := Aside0.mk hy197
   clear hy197
   have H' := Aside0.mk H
   clear H
   have p190 : 0 ≤ (x4_1 : Int) := aD
   have q190 : x4_1 < (l0.length : Int) := aD
   obtain ⟨ad190, A190_3, c190_3, e190, hx190_0, hx190_1, hx190_2, hx190_3, hl190_3, hi190_3⟩ := at_T33 HR0.out x4_1 p190 q190
   cases e190
   replace hx190_0 := (HB.out.cell (World.block_lt_of_cell? w _ hx190_0)).trans hx190_0
   replace hx190_1 := (HB.out.cell (World.block_lt_of_cell? w _ hx190_1)).trans hx190_1
   replace hx190_2 := (HB.out.cell (World.block_lt_of_cell? w _ hx190_2)).trans hx190_2
   replace hx190_3 := (HB.out.cell (World.block_lt_of_cell? w _ hx190_3)).trans hx190_3
   have HR190_3 := Aside0.mk hi190_3
   have HC190_3 := Aside0.mk hl190_3
   clear hi190_3 hl190_3
   replace p190 := eq_true p190
   replace q190 := eq_true q190
   go_wp2_with (first | ((with_reducible refine gate_callee (f := 12) rfl ?_); refine goesL_ (some 20) rfl rfl Tryz.func12 (by kernel_rfl) rfl #[.agg #[.int .i64 ((rd_T33 l0 x4_1).f0), .string ((rd_T33 l0 x4_1).f1), .string ((rd_T33 l0 x4_1).f2), .slice A190_3 ((rd_T33 l0 x4_1).f3).length c190_3]] rfl aG ?_; (with_reducible refine (laws_toItem.calls k1 ((rd_T33 l0 x4_1).f0) ((rd_T33 l0 x4_1).f1) ((rd_T33 l0 x4_1).f2) _ _ ((rd_T33 l0 x4_1).f3) t191 t192 t193 t194 _ ?side1 ?side2 A8.out).mono ?_); (case side1 => repeat (first | exact (Kd.C_below HR190_3.out HB.out) | (with_reducible refine Kd.C_alloc ?_ _) | (with_reducible refine Kd.C_drewN ?_ _) | (with_reducible refine Kd.C_drew ?_))); (case side2 => exact HC190_3.out); rintro e w11 ⟨v195, rfl, ho0, hb⟩; refine ⟨_, rfl, ?_⟩; have n0_ := Aside0.mk (Kd.S_elder' (by (with_reducible repeat (first | apply Kd.S_alloc | apply Kd.S_drewN | apply Kd.S_drew)); exact HO_3.out) (Kd.R_base ho0) hb); have n1_ := Aside0.mk (Kd.R_lower ho0 (below_size aB)); have n2_ := Aside0.mk (below_step aB hb); clear HO_3; clear HB; have HO_3 := n0_; have HO196 := n1_; have HB := n2_; clear n0_ n1_ n2_; (try clear hb); (try clear hb2); (try clear hk); (try clear hi); (try clear ho0); have p10 : 0 ≤ (x4_1 : Int) := aD; have q10 : (x4_1 : Int) < ((x3_1.length : Int) : Int) := aD; obtain ⟨go10, co10, eo10, gb10, gl10, cl10, HG10⟩ := Kd.S_form HO_3.out (by omega); (first | cases eo10 | (injection eo10 with ea_ en_ ec_; (first | subst ea_ | (injection ea_ with ea_; subst ea_)); subst ec_; clear en_)); have GB10 := Aside0.mk gb10; have GG10 := Aside0.mk HG10; clear gb10 gl10 HG10; obtain ⟨_, ce10, hcl10, hM10, hcc10, hfr10, _, _⟩ := Kd.S_elem HO_3.out z39 (x4_1 : Int) p10 q10; obtain ⟨ve10_3, rfl, ge10_3⟩ := k39_openM hM10; have hx10_0 : w11.cell? ⟨go10, (x4_1 : Int).toNat * 4, none⟩ = some (.int .i64 ((rd_T39 x3_1 x4_1).f0)) := hcc10 0 _ rfl; have hx10_1 : w11.cell? ⟨go10, (x4_1 : Int).toNat * 4 + 1, none⟩ = some (.string ((rd_T39 x3_1 x4_1).f1)) := hcc10 1 _ rfl; have hx10_2 : w11.cell? ⟨go10, (x4_1 : Int).toNat * 4 + 2, none⟩ = some (.string ((rd_T39 x3_1 x4_1).f2)) := hcc10 2 _ rfl; have hx10_3 : w11.cell? ⟨go10, (x4_1 : Int).toNat * 4 + 3, none⟩ = some (ve10_3) := hcc10 3 _ rfl; have hf10_0 : w11.frozen? ⟨go10, (x4_1 : Int).toNat * 4, none⟩ = false := hfr10 0; have hf10_1 : w11.frozen? ⟨go10, (x4_1 : Int).toNat * 4 + 1, none⟩ = false := hfr10 1; have hf10_2 : w11.frozen? ⟨go10, (x4_1 : Int).toNat * 4 + 2, none⟩ = false := hfr10 2; have hf10_3 : w11.frozen? ⟨go10, (x4_1 : Int).toNat * 4 + 3, none⟩ = false := hfr10 3; clear hcl10 hcc10 hfr10 hM10; replace p10 := eq_true p10; replace q10 := eq_true q10; have n_ := Aside0.mk (Kd.S_mono (ok' := (fun k_ => some k_ ≠ (v195 : Value).ownBlock)) HO_3.out (fun k_ hk => hk.2)); clear HO_3; have HO_3 := n_; clear n_; have HX12 := Aside0.mk (show Kd.S k39 39 w11 w.heap.size (fun k_ => ((fun _ => True)) k_ ∧ ¬ ((fun k_ => some k_ = (v195 : Value).ownBlock)) k_) (.slice (some ⟨go10, 0, none⟩) x3_1.length co10) x3_1 from (by (with_reducible repeat (first | apply Kd.S_alloc | apply Kd.S_drewN | apply Kd.S_drew)); exact Kd.S_mono HO_3.out (fun k_ hk => ⟨trivial, fun e_ => hk e_⟩))); obtain ⟨oki12, ce12, hcl12, hM12, hcc12, hfr12, hoki12, hH12⟩ := Kd.S_elem HX12.out z39 (x4_1 : Int) (aD) (by have h_ : (x4_1 : Int) < ((x3_1.length : Int) : Int) := aD; first | exact h_ | (have e_ := (Kd.S_reads' HO_3.out).1; omega) | simpa using h_); obtain ⟨ve12_3, rfl, ge12_3⟩ := k39_openM hM12; have HP12 := Kd.S_seg hH12 (aD) (by have h_ : (x4_1 : Int) < ((x3_1.length : Int) : Int) := aD; first | exact h_ | (have e_ := (Kd.S_reads' HO_3.out).1; omega) | simpa using h_) (seg := [.int .i64 t191, .string t192, .string t193, v195]) (j := 0) (show 4 ≤ 4 from by decide) (x' := (⟨t191, t192, t193, t194⟩ : S39)) (k39_mkM _ _ _ (⟨t191, t192, t193, t194⟩ : S39) (Kd.R_mono (Kd.R_tight rfl (Kd.R_mono (ok' := fun k_ => ((fun _ => True)) k_ ∧ k_ ≠ go10) (Kd.R_apart' (HO196.out) (Kd.S_typed HO_3.out) (by decide)) (fun k_ hk => ⟨trivial, fun e_ => (hk.2) (by rw [e_]; rfl)⟩))) (fun _ h_ => Or.inr (h_)))) (fun _ hk => hk) (fun k_ hk_ => ((Kd.R_mono (ok' := fun k_ => ((fun _ => True)) k_ ∧ k_ ≠ go10) (Kd.R_apart' (HO196.out) (Kd.S_typed HO_3.out) (by decide)) (fun k_ hk => ⟨trivial, fun e_ => (hk.2) (by rw [e_]; rfl)⟩))).1 k_ hk_.symm); have hx12_0 := hcc12 0 _ rfl; (try simp only [show (k39).sz = 4 from rfl, Nat.mul_one, Nat.add_zero] at hx12_0); have hf12_0 := hfr12 0; (try simp only [show (k39).sz = 4 from rfl, Nat.mul_one, Nat.add_zero] at hf12_0); have hx12_1 := hcc12 1 _ rfl; (try simp only [show (k39).sz = 4 from rfl, Nat.mul_one, Nat.add_zero] at hx12_1); have hf12_1 := hfr12 1; (try simp only [show (k39).sz = 4 from rfl, Nat.mul_one, Nat.add_zero] at hf12_1); have hx12_2 := hcc12 2 _ rfl; (try simp only [show (k39).sz = 4 from rfl, Nat.mul_one, Nat.add_zero] at hx12_2); have hf12_2 := hfr12 2; (try simp only [show (k39).sz = 4 from rfl, Nat.mul_one, Nat.add_zero] at hf12_2); have hx12_3 := hcc12 3 _ rfl; (try simp only [show (k39).sz = 4 from rfl, Nat.mul_one, Nat.add_zero] at hx12_3); have hf12_3 := hfr12 3; (try simp only [show (k39).sz = 4 from rfl, Nat.mul_one, Nat.add_zero] at hf12_3); clear hcl12 hcc12 hfr12 hM12 hoki12 hH12) | ((with_reducible refine gate_store (t := 39) (p := 21) rfl ?_); refine store_event (t := 39) (p := 21) (v := ?vo_w13) (w1 := ((((w11.setCell ⟨go10, (x4_1 : Int).toNat * 4, none⟩ (.int .i64 t191)).setCell ⟨go10, (x4_1 : Int).toNat * 4 + 1, none⟩ (.string t192)).setCell ⟨go10, (x4_1 : Int).toNat * 4 + 2, none⟩ (.string t193)).setCell ⟨go10, (x4_1 : Int).toNat * 4 + 3, none⟩ (v195))) ?hg ?ho ?hn ?hr ?_; (case ho => rfl); (case hg => rfl); (case hn => rfl); (case hr => first | (go_simp; done) | (go_simp; rfl) | (obtain ⟨A0_, c0_, e0_⟩ := Kd.R_slice HO196.out; subst e0_; go_simp; done) | (obtain ⟨A0_, c0_, e0_⟩ := Kd.R_slice HO196.out; subst e0_; go_simp; rfl)); intro w13 hw; have hg : w11.grownBy w13 (some go10) := (by rw [hw]; exact HP12.2); have hp_ : Kd.S k39 39 w13 w.heap.size (fun _ => True) (.slice (some ⟨go10, 0, none⟩) x3_1.length co10) y197 := (by rw [hw, Ny197.out]; exact HP12.1); clear HP12; have n0_ := Aside0.mk (hp_); have n1_ := Aside0.mk ((by rw [hw]; exact below_set (below_set (below_set (below_set (HB.out) GB10.out) GB10.out) GB10.out) GB10.out : Below w.heap.size w w13)); clear HO_3; clear HB; clear HO196; have HO_3 := n0_; have HB := n1_; clear n0_ n1_; clear hg hw hp_))
   go_roundg k1
   case measure => have := HK1.out; omega
   case rel => exact ⟨(y197), (wrap64 (x4_1 + 1)), aR, H', ⟨by have := HK1.out; omega⟩, ⟨by (with_reducible repeat (first | apply Kd.S_alloc | apply Kd.S_drewN | apply Kd.S_drew)); exact HO_3.out⟩, ⟨aB⟩⟩
def impl_in.f (a0 : Int) (a1 : Int) (a2 : Int) : Option (Bool) := if a1 ≤ a0 then (some (decide (a0 ≤ a2))) else (some false)
set_option maxHeartbeats 8000000 in
set_option maxRecDepth 100000 in
theorem impl_in.calls (a0 : Int) (a1 : Int) (a2 : Int) (r : Bool) (w : World) (h : impl_in.f a0 a1 a2 = some r) :
  Calls Tryz.prog 26 #[.int .i64 a0, .int .i64 a1, .int .i64 a2] w fun e w' => e = .returned (.bool r) ∧ Drawn0 w w' := by
 have H : (if a1 ≤ a0 then (some (decide (a0 ≤ a2))) else (some false)) = some r := h
 clear h
 by_cases c4 : a1 ≤ a0
 ·rw [if_pos c4] at H
  have c4b0 : decide (a1 ≤ a0) = true := decide_eq_true c4
  clear c4
  obtain rfl := Option.some.inj H
  go_enter Tryz.func26, Tryz.ntmps26
  go_wp2
  go_ret
  exact ⟨by first | rfl | (simp; done) | (simp [*]; done), by repeat (first | exact Drawn0.refl _ | apply Drawn0.step)⟩
 rw [if_neg c4] at H
 have c4b0 : decide (a1 ≤ a0) = false := decide_eq_false c4
 clear c4
 obtain rfl := Option.some.inj H
 go_enter Tryz.func26, Tryz.ntmps26
 go_wp2
 go_ret
 exact ⟨by first | rfl | (simp; done) | (simp [*]; done), by repeat (first | exact Drawn0.refl _ | apply Drawn0.step)⟩
def impl_Runes.from : Nat → List UInt8 → List Int
  | 0, _ => []
  | n + 1, l => if l = [] then [] else ((Lib.decodeL l).1 : Int) :: impl_Runes.from n (l.drop (Lib.decodeL l).2)
def impl_Runes.f (a0 : ByteArray) : Option (List Int × Bool) := if (a0.size : Int) > 20000 then (some ([], false)) else (if Lib.validD a0.data.toList = true then (some (impl_Runes.from a0.size a0.data.toList, true)) else (some ([], false)))
theorem impl_Runes.iter_keep {α : Type} {d : Kd α} {e base : Nat} {ok : Nat → Prop} {W1 W2 w3 : World} {v : Value} {xs : List α} {k : Nat} {s : ByteArray} {pos : Nat} (hk : W1.heap[k]? = some (.stringIter s pos)) (hb : Below W1.heap.size W1 W2) (hR : Kd.R d e W2 base ok v xs) (hg : W2.grownBy w3 v.ownBlock) : w3.heap[k]? = some (.stringIter s pos) := by
  have hlt : k < W1.heap.size := (Array.getElem?_eq_some_iff.1 hk).1
  have h2 : W2.heap[k]? = some (.stringIter s pos) := (hb.block k hlt).trans hk
  have hlt2 : k < W2.heap.size := (Array.getElem?_eq_some_iff.1 h2).1
  rw [hg.block k hlt2 ?_]
  · exact h2
  · intro he
    obtain ⟨c, hc⟩ := Kd.R_typed hR k he.symm
    rw [h2] at hc
    cases hc
theorem impl_Runes.iter_R {e base : Nat} {W : World} {v : Value} {xs : List Int} {k : Nat} {s : ByteArray} {pos : Nat} (pos' : Nat) (hk : W.heap[k]? = some (.stringIter s pos)) (hR : Kd.R (Kd.int .i64) e W base (fun _ => True) v xs) : Kd.R (Kd.int .i64) e (W.iterAt k s pos') base (fun _ => True) v xs := by
  refine Kd.R_mono (Kd.R_step (Kd.R_tight2 rfl hR) (fun j hj _ => Lib.iterAt_other W k j s pos' ?_)) (fun _ _ => trivial)
  rintro rfl
  obtain ⟨c, hc⟩ := Kd.R_typed hR j hj.1.symm
  rw [hk] at hc
  cases hc
set_option maxHeartbeats 8000000 in
set_option maxRecDepth 100000 in
theorem impl_Runes.calls (a0 : ByteArray) (r1 : List Int) (r2 : Bool) (w : World) (hgl : GL w) (h : impl_Runes.f a0 = some (r1, r2)) :
    Calls Tryz.prog 45 #[.string a0] w fun e w' => ∃ v0_ : Value, e = .returned (.tuple #[v0_, .bool r2]) ∧ Kd.R (Kd.int .i64) 2 w' w.heap.size (fun _ => True) v0_ r1 ∧ Below w.heap.size w w' := by
  have HGL := Aside0.mk hgl
  clear hgl
  have HB := Aside0.mk (Below.refl w.heap.size w)
  have H : (if (a0.size : Int) > 20000 then (some ([], false)) else (if Lib.validD a0.data.toList = true then (some (impl_Runes.from a0.size a0.data.toList, true)) else (some ([], false)))) = some (r1, r2) := h
  clear h
  by_cases c2 : (a0.size : Int) > 20000
  · rw [if_pos c2] at H
    have c2b0 : decide (20000 < (a0.size : Int)) = true := decide_eq_true c2
    have c2b1 : decide (20000 < a0.size) = true := decide_eq_true (by omega)
    clear c2
    simp only [Option.some.injEq, Prod.mk.injEq] at H
    obtain ⟨rfl, rfl⟩ := H
    go_enter Tryz.func45, Tryz.ntmps45
    go_wp2
    go_ret2
    exact ⟨_, by first | rfl | (simp [*] <;> rfl), Kd.R_nil _ _ _ _ _, aB⟩
  rw [if_neg c2] at H
  have hn := Aside0.mk (show a0.size ≤ 20000 by omega)
  have c2b0 : decide (20000 < (a0.size : Int)) = false := decide_eq_false c2
  have c2b1 : decide (20000 < a0.size) = false := decide_eq_false (by omega)
  clear c2
  have CV : Aside0 (∀ w, GL w → Calls Tryz.prog 54 #[.string a0] w fun e w' => e = .returned (.bool (Lib.validD a0.data.toList)) ∧ Below w.heap.size w w') := ⟨fun w h => Any.utf8_ValidString Tryz.lays196 a0 w (by have := hn.out; omega) h.1⟩
  by_cases c3 : Lib.validD a0.data.toList = true
  rotate_left
  · rw [if_neg c3] at H
    simp only [Option.some.injEq, Prod.mk.injEq] at H
    obtain ⟨rfl, rfl⟩ := H
    rw [Bool.eq_false_iff.mpr c3] at CV
    clear c3
    go_enter Tryz.func45, Tryz.ntmps45
    go_wp2_with (go_at_call 54; (refine (CV.out _ (GL.below HGL.out aB)).mono ?_); rintro e w2 ⟨rfl, hb⟩; have n1_ := Aside0.mk (below_step aB hb); clear HB hb; have HB := n1_; clear n1_)
    go_ret2
    exact ⟨_, by first | rfl | (simp [*] <;> rfl), Kd.R_nil _ _ _ _ _, aB⟩
  rw [if_pos c3] at H
  simp only [Option.some.injEq, Prod.mk.injEq] at H
  obtain ⟨h1, rfl⟩ := H
  have H1 := Aside0.mk h1
  clear h1
  rw [c3] at CV
  clear c3
  go_enter Tryz.func45, Tryz.ntmps45
  go_wp2_with (first | (go_at_call 54; (refine (CV.out _ (GL.below HGL.out aB)).mono ?_); rintro e w2 ⟨rfl, hb⟩; have n1_ := Aside0.mk (below_step aB hb); clear HB hb; have HB := n1_; clear n1_) | ((with_reducible refine gate_dst (N := 15) rfl ?_); refine Kd.R_lit (Kd.int .i64) _ 2 ?hg (N := 15) ?hd (xs := ([] : List Int)) (inner := []) (ok := fun _ => True) (okp := fun _ => True) ?hr ?hp (fun _ hk => hk) trivial (Below.refl _ _) (Nat.le_refl _) (by simp) ?_; (case hd => rfl); (case hg => rfl); (case hr => first | (go_simp; done) | (go_simp; rfl)); (case hp => exact (Reps.none _ _)); intro v105 w3 ho4 hb hg_ hnew_; clear hg_ hnew_; have n0_ := Aside0.mk (Kd.R_lower ho4 (below_size aB)); have n1_ := Aside0.mk (below_step aB hb); clear HB; have HO106 := n0_; have HB := n1_; clear n0_ n1_; clear hb ho4))
  go_loopg [4] (a0.size + 1) (fun kq v4 w' => ∃ (pos f : Nat) (x4 : List Int), Aside0 (w'.heap[w3.heap.size]? = some (.stringIter a0 pos)) ∧ Aside0 (x4 ++ impl_Runes.from f (a0.data.toList.drop pos) = r1) ∧ Aside0 (a0.size ≤ pos + f ∧ f < kq) ∧ Aside0 (x4.length + f ≤ a0.size) ∧ Aside0 (Kd.R (Kd.int .i64) 2 w' w.heap.size (fun _ => True) v4 x4) ∧ Aside0 (Below w.heap.size w w') ∧ Aside0 (w.heap.size ≤ w3.heap.size))
  case atStart =>
    refine ⟨0, a0.size, [], ⟨?_⟩, ⟨by rw [List.drop_zero]; exact H1.out⟩, ⟨by omega, by omega⟩, ⟨by simp⟩, ⟨Kd.R_alloc HO106.out _⟩, ⟨below_alloc HB.out _⟩, ⟨below_size HB.out⟩⟩
    have := World.iter_heap w3 a0 0
    simpa using this
  case round =>
    clear H1 HO106 HB CV
    obtain ⟨pos, f, x4, HIT, HX, HF, HL, HO, HB, HS⟩ := hrel
    by_cases hp : pos < a0.size
    rotate_left
    · have hnx := fun ty => Lib.run_next_end_at (P := Tryz.prog) wr w3.heap.size a0 pos ty HIT.out hp
      have hx := HX.out
      rw [List.drop_eq_nil_of_le (by rw [data_length]; omega)] at hx
      have hnil : impl_Runes.from f [] = [] := by cases f <;> simp [impl_Runes.from]
      rw [hnil, List.append_nil] at hx
      subst hx
      clear HX hnil hp
      go_wp2
      go_ret2
      exact ⟨_, by first | rfl | (simp [*] <;> rfl), HO.out, HB.out⟩
    obtain ⟨f, rfl⟩ : ∃ f', f = f' + 1 := ⟨f - 1, by have := HF.out; omega⟩
    have hwd := Lib.decodeL_width (a0.data.toList.drop pos)
    have hmx := Lib.decodeL_rune (a0.data.toList.drop pos)
    have hle := decode_le a0 pos
    have hne : a0.data.toList.drop pos ≠ [] := by
      intro e
      have := congrArg List.length e
      rw [List.length_drop, List.length_nil, data_length] at this
      omega
    have hx := HX.out
    rw [impl_Runes.from, if_neg hne, List.drop_drop] at hx
    have hnx := fun ty => Lib.run_next_any_at (P := Tryz.prog) wr w3.heap.size a0 pos ty HIT.out hp
    rw [Lib.decodeL_drop] at hwd hmx hx
    have hit2 := Lib.iterAt_heap wr w3.heap.size a0 pos (pos + (Utf8.decode a0 pos).2) HIT.out
    have hbw2 := Lib.below_iterAt HB.out (k := w3.heap.size) HS.out a0 (pos + (Utf8.decode a0 pos).2)
    have hR2 := impl_Runes.iter_R (pos + (Utf8.decode a0 pos).2) HIT.out HO.out
    have e21 : ((Utf8.decode a0 pos).1 : Int) ≤ 1114111 := by omega
    generalize (Utf8.decode a0 pos).1 = rn at *
    generalize (Utf8.decode a0 pos).2 = rw_ at *
    generalize hW : wr.iterAt w3.heap.size a0 (pos + rw_) = W1 at *
    clear hW
    have NIT := Aside0.mk hit2
    have NB := Aside0.mk hbw2
    have NO := Aside0.mk hR2
    have NX := Aside0.mk hx
    have NW := Aside0.mk (And.intro hwd hle)
    have NR := Aside0.mk e21
    clear hit2 hbw2 hR2 hx hwd hle hmx hne e21 HIT HX HO HB
    have e64 : wrap64 ((rn : Nat) : Int) = rn := by have := NR.out; unfold wrap64; omega
    clear hp
    go_wp2_with (first | ((with_reducible refine gate_builtin (b := .append) (xs := #[.tmp 21, .tmp 24]) rfl ?_); at_builtin; refine Kd.R_append (Kd.int .i64) (w0 := w) w.heap.size rfl (.tmp 21) (.tmp 24) 59 2 (.int .i64 0) 8 rfl Tryz.underlying59 info2 rfl (by decide) (by omega) u4 x4 ((rn : Nat) : Int) [.int .i64 rn] (fun _ => True) (fun _ => False) rfl rfl ?aP (fun _ hk => hk.elim) ?aF ?aO ?aB ?aS ?aL ?_; (case aP => exact rfl); (case aB => exact (by repeat (first | (with_reducible first | exact NB.out | apply below_alloc | apply pw_below_drewN | apply below_drew1) | exact NB.out))); (case aF => exact (fun _ _ => trivial)); (case aO => exact (aP NO.out)); (case aS => exact (below_size (by repeat (first | (with_reducible first | exact NB.out | apply below_alloc | apply pw_below_drewN | apply below_drew1) | exact NB.out)))); (case aL => have := HL.out; have := hn.out; omega); intro v110 w11 ho hb hg hat; have n2_ := Aside0.mk (impl_Runes.iter_keep NIT.out (by repeat (first | (with_reducible first | exact Below.refl _ _ | apply below_alloc | apply pw_below_drewN | apply below_drew1) | exact Below.refl _ _)) (aP NO.out) hg); have n0_ := Aside0.mk (hb); have n1_ := Aside0.mk (ho); clear NB; clear NO; have NB := n0_; have HO111 := n1_; have NIT2 := n2_; clear n0_ n1_ n2_; clear ho hb hg hat))
    go_roundg (f + 1)
    case measure => have := HF.out; omega
    case rel =>
      refine ⟨pos + rw_, f, x4 ++ [((rn : Nat) : Int)], ⟨NIT2.out⟩, ⟨?_⟩, ⟨?_, ?_⟩, ⟨?_⟩, ⟨HO111.out⟩, ⟨NB.out⟩, HS⟩
      · rw [List.append_assoc]; exact NX.out
      · have := HF.out; have := NW.out; omega
      · omega
      · have := HL.out; rw [List.length_append]; simp only [List.length_cons, List.length_nil]; omega
def impl_CharOk.f (a0 : Int) : Option (Bool) := if a0 = 9 then (some true) else (if a0 = 10 then (some true) else (if a0 = 13 then (some true) else ((impl_in.f a0 32 55295).bind fun t198 => (if t198 = true then (some true) else ((impl_in.f a0 57344 65533).bind fun t199 => (if t199 = true then (some true) else ((impl_in.f a0 65536 1114111).bind fun t200 => (some t200))))))))
set_option maxHeartbeats 8000000 in
set_option maxRecDepth 100000 in
theorem impl_CharOk.calls (a0 : Int) (r : Bool) (w : World) (h : impl_CharOk.f a0 = some r) :
  Calls Tryz.prog 46 #[.int .i64 a0] w fun e w' => e = .returned (.bool r) ∧ Drawn0 w w' := by
 have H : (if a0 = 9 then (some true) else (if a0 = 10 then (some true) else (if a0 = 13 then (some true) else ((impl_in.f a0 32 55295).bind fun t198 => (if t198 = true then (some true) else ((impl_in.f a0 57344 65533).bind fun t199 => (if t199 = true then (some true) else ((impl_in.f a0 65536 1114111).bind fun t200 => (some t200))))))))) = some r := h
 clear h
 by_cases c2 : a0 = 9
 ·rw [if_pos c2] at H
  have c2b0 : (a0 == 9) = true := beq_iff_eq.mpr c2
  have c2b1 : (a0 != 9) = false := bne_eq_false_iff_eq.mpr c2
  clear c2
  obtain rfl := Option.some.inj H
  go_enter Tryz.func46, Tryz.ntmps46
  go_wp2
  go_ret
  exact ⟨by first | rfl | (simp; done) | (simp [*]; done), by repeat (first | exact Drawn0.refl _ | apply Drawn0.step)⟩
 rw [if_neg c2] at H
 have c2b0 : (a0 == 9) = false := beq_eq_false_iff_ne.mpr c2
 have c2b1 : (a0 != 9) = true := bne_iff_ne.mpr c2
 by_cases c3 : a0 = 10
 ·rw [if_pos c3] at H
  have c3b0 : (a0 == 10) = true := beq_iff_eq.mpr c3
  have c3b1 : (a0 != 10) = false := bne_eq_false_iff_eq.mpr c3
  clear c3
  obtain rfl := Option.some.inj H
  go_enter Tryz.func46, Tryz.ntmps46
  go_wp2
  go_ret
  exact ⟨by first | rfl | (simp; done) | (simp [*]; done), by repeat (first | exact Drawn0.refl _ | apply Drawn0.step)⟩
 rw [if_neg c3] at H
 have c3b0 : (a0 == 10) = false := beq_eq_false_iff_ne.mpr c3
 have c3b1 : (a0 != 10) = true := bne_iff_ne.mpr c3
 by_cases c4 : a0 = 13
 ·rw [if_pos c4] at H
  have c4b0 : (a0 == 13) = true := beq_iff_eq.mpr c4
  have c4b1 : (a0 != 13) = false := bne_eq_false_iff_eq.mpr c4
  clear c4
  obtain rfl := Option.some.inj H
  go_enter Tryz.func46, Tryz.ntmps46
  go_wp2
  go_ret
  exact ⟨by first | rfl | (simp; done) | (simp [*]; done), by repeat (first | exact Drawn0.refl _ | apply Drawn0.step)⟩
 rw [if_neg c4] at H
 have c4b0 : (a0 == 13) = false := beq_eq_false_iff_ne.mpr c4
 have c4b1 : (a0 != 13) = true := bne_iff_ne.mpr c4
 replace H := Option.bind_eq_some_iff.mp H
 obtain ⟨t198, A50, H⟩ := H
 replace H : (if t198 = true then (some true) else ((impl_in.f a0 57344 65533).bind fun t199 => (if t199 = true then (some true) else ((impl_in.f a0 65536 1114111).bind fun t200 => (some t200))))) = some r := H
 have A5 := Aside0.mk A50
 clear A50
 by_cases c6 : t198 = true
 ·subst c6
  have H1 : (some true) = some r := by rw [if_pos rfl] at H; exact H
  clear H
  have H := H1
  clear H1
  obtain rfl := Option.some.inj H
  go_enter Tryz.func46, Tryz.ntmps46
  go_wp2_with (first | (go_at_call 26; (with_reducible refine (impl_in.calls a0 32 55295 true _ A5.out).mono ?_); rintro e w' ⟨rfl, ⟨nd, rfl⟩⟩))
  go_ret
  exact ⟨by first | rfl | (simp; done) | (simp [*]; done), by repeat (first | exact Drawn0.refl _ | apply Drawn0.step)⟩
 replace c6 := Bool.eq_false_iff.mpr c6
 subst c6
 have H1 : ((impl_in.f a0 57344 65533).bind fun t199 => (if t199 = true then (some true) else ((impl_in.f a0 65536 1114111).bind fun t200 => (some t200)))) = some r := by rw [if_neg (show ¬ (false = true) by decide)] at H; exact H
 clear H
 have H := H1
 clear H1
 replace H := Option.bind_eq_some_iff.mp H
 obtain ⟨t199, A70, H⟩ := H
 replace H : (if t199 = true then (some true) else ((impl_in.f a0 65536 1114111).bind fun t200 => (some t200))) = some r := H
 have A7 := Aside0.mk A70
 clear A70
 by_cases c8 : t199 = true
 ·subst c8
  have H1 : (some true) = some r := by rw [if_pos rfl] at H; exact H
  clear H
  have H := H1
  clear H1
  obtain rfl := Option.some.inj H
  go_enter Tryz.func46, Tryz.ntmps46
  go_wp2_with (first | (go_at_call 26; (with_reducible refine (impl_in.calls a0 32 55295 false _ A5.out).mono ?_); rintro e w' ⟨rfl, ⟨nd, rfl⟩⟩) | (go_at_call 26; (with_reducible refine (impl_in.calls a0 57344 65533 true _ A7.out).mono ?_); rintro e w' ⟨rfl, ⟨nd, rfl⟩⟩))
  go_ret
  exact ⟨by first | rfl | (simp; done) | (simp [*]; done), by repeat (first | exact Drawn0.refl _ | apply Drawn0.step)⟩
 replace c8 := Bool.eq_false_iff.mpr c8
 subst c8
 have H1 : ((impl_in.f a0 65536 1114111).bind fun t200 => (some t200)) = some r := by rw [if_neg (show ¬ (false = true) by decide)] at H; exact H
 clear H
 have H := H1
 clear H1
 replace H := Option.bind_eq_some_iff.mp H
 obtain ⟨t200, A90, H⟩ := H
 replace H : (some t200) = some r := H
 have A9 := Aside0.mk A90
 clear A90
 obtain rfl := Option.some.inj H
 go_enter Tryz.func46, Tryz.ntmps46
 go_wp2_with (first | (go_at_call 26; (with_reducible refine (impl_in.calls a0 32 55295 false _ A5.out).mono ?_); rintro e w' ⟨rfl, ⟨nd, rfl⟩⟩) | (go_at_call 26; (with_reducible refine (impl_in.calls a0 57344 65533 false _ A7.out).mono ?_); rintro e w' ⟨rfl, ⟨nd, rfl⟩⟩) | (go_at_call 26; (with_reducible refine (impl_in.calls a0 65536 1114111 t200 _ A9.out).mono ?_); rintro e w' ⟨rfl, ⟨nd, rfl⟩⟩))
 go_ret
 exact ⟨by first | rfl | (simp; done) | (simp [*]; done), by repeat (first | exact Drawn0.refl _ | apply Drawn0.step)⟩
def impl_isPlain.l0 : Nat → Bool → List Int → Int → Int → Option (Bool)
 | 0, _, _, _, _ => none
 | k + 1, x4, x12, x13, x14 => if x14 < x13 then (if 0 ≤ x14 then (if x14 < (x12.length : Int) then (if x4 = true then ((impl_CharOk.f (rd x12 x14)).bind fun t206 => (impl_isPlain.l0 k t206 x12 x13 (wrap64 (x14 + 1)))) else (impl_isPlain.l0 k false x12 x13 (wrap64 (x14 + 1)))) else (none)) else (none)) else (some x4)
def impl_isPlain.f (k : Nat) (a0 : ByteArray) : Option (Bool) := (impl_Runes.f a0).bind fun bt201 => (impl_isPlain.l0 k bt201.2 bt201.1 (bt201.1.length : Int) 0)
set_option maxHeartbeats 8000000 in
set_option maxRecDepth 100000 in
theorem impl_isPlain.calls (k : Nat) (a0 : ByteArray) (r : Bool) (w : World) (hgl : GL w) (h : impl_isPlain.f k a0 = some r) :
  Calls Tryz.prog 37 #[.string a0] w fun e w' => e = .returned (.bool r) ∧ Below w.heap.size w w' := by
 have HGL := Aside0.mk hgl
 clear hgl
 have HB := Aside0.mk (Below.refl w.heap.size w)
 have H : ((impl_Runes.f a0).bind fun bt201 => (impl_isPlain.l0 k bt201.2 bt201.1 (bt201.1.length : Int) 0)) = some r := h
 clear h
 replace H := Option.bind_eq_some_iff.mp H
 obtain ⟨⟨t201, t202⟩, A20, H⟩ := H
 replace H : (impl_isPlain.l0 k t202 t201 (t201.length : Int) 0) = some r := H
 have A2 := Aside0.mk A20
 clear A20
 have H' := Aside0.mk H
 clear H
 go_enter Tryz.func37, Tryz.ntmps37
 go_wp2_with (first | ((with_reducible refine gate_callee (f := 45) rfl ?_); refine goesL_ (some 9) rfl rfl Tryz.func45 (by kernel_rfl) rfl #[.string a0] rfl aG ?_; (with_reducible refine (impl_Runes.calls a0 t201 t202 _ ?side1 A2.out).mono ?_); (case side1 => exact GL.below HGL.out aB); rintro e w3 ⟨v203, rfl, ho0, hb⟩; refine ⟨_, rfl, ?_⟩; have n0_ := Aside0.mk (Kd.R_lower ho0 (below_size aB)); have n1_ := Aside0.mk (below_step aB hb); clear HB; have HO204 := n0_; have HB := n1_; clear n0_ n1_; (try clear hb); (try clear hb2); (try clear hk); (try clear hi); (try clear ho0); obtain ⟨Ao4, co4, eo4⟩ := Kd.R_slice HO204.out; subst eo4))
 go_loopg [4, 14] k (fun kq v4 v14 w' => ∃ (x4_1 : Bool) (x14_1 : Int), v4 = .bool x4_1 ∧ v14 = .int .i64 x14_1 ∧ Aside0 (impl_isPlain.l0 kq x4_1 t201 (t201.length : Int) x14_1 = some r) ∧ Aside0 (kq ≤ k) ∧ Aside0 (Kd.R (Kd.int .i64) 2 w' w.heap.size (fun _ => True) (.slice Ao4 t201.length co4) t201) ∧ Aside0 (Below w.heap.size w w'))
 case atStart => exact ⟨(t202), (0), aR, aR, H', ⟨Nat.le_refl _⟩, ⟨aP HO204.out⟩, ⟨aB⟩⟩
 case round =>
  clear H'
  try clear p2
  try clear c3
  try clear c4
  obtain ⟨x4_1, x14_1, rfl, rfl, HA, HK1, HO_12, HB⟩ := hrel
  cases gk with
  | zero => exact absurd HA.out (by simp [impl_isPlain.l0])
  | succ k1 =>
   have H := HA.out
   clear HA
   simp only [impl_isPlain.l0] at H
   by_cases c5 : x14_1 < (t201.length : Int)
   rotate_left
   ·rw [if_neg c5] at H
    have c5b0 : decide (x14_1 < (t201.length : Int)) = false := decide_eq_false c5
    clear c5
    obtain rfl := Option.some.inj H
    go_wp2
    go_ret
    exact ⟨aS, aB⟩
   rw [if_pos c5] at H
   have c5b0 : decide (x14_1 < (t201.length : Int)) = true := decide_eq_true c5
   clear c5
   by_cases c6 : 0 ≤ x14_1
   rotate_left
   ·rw [if_neg c6] at H
    exact absurd H (by simp)
   rw [if_pos c6] at H
   have c6b0 : decide (0 ≤ x14_1) = true := decide_eq_true c6
   clear c6
   by_cases c7 : x14_1 < (t201.length : Int)
   rotate_left
   ·rw [if_neg c7] at H
    exact absurd H (by simp)
   rw [if_pos c7] at H
   have c7b0 : decide (x14_1 < (t201.length : Int)) = true := decide_eq_true c7
   clear c7
   by_cases c8 : x4_1 = true
   rotate_left
   ·replace c8 := Bool.eq_false_iff.mpr c8
    subst c8
    have H1 : (impl_isPlain.l0 k1 false t201 (t201.length : Int) (wrap64 (x14_1 + 1))) = some r := by rw [if_neg (show ¬ (false = true) by decide)] at H; exact H
    clear H
    have H := H1
    clear H1
    have H' := Aside0.mk H
    clear H
    have p205 : 0 ≤ (x14_1 : Int) := aD
    have q205 : x14_1 < (t201.length : Int) := aD
    obtain ⟨ad205, e205, hx205_0⟩ := Kd.at_int (Kd.R_reads' HO_12.out).2.2 x14_1 p205 q205
    cases e205
    replace p205 := eq_true p205
    replace q205 := eq_true q205
    go_wp2
    go_roundg k1
    case measure => have := HK1.out; omega
    case rel => exact ⟨(false), (wrap64 (x14_1 + 1)), aR, aR, H', ⟨by have := HK1.out; omega⟩, ⟨aP HO_12.out⟩, ⟨aB⟩⟩
   subst c8
   have H1 : ((impl_CharOk.f (rd t201 x14_1)).bind fun t206 => (impl_isPlain.l0 k1 t206 t201 (t201.length : Int) (wrap64 (x14_1 + 1)))) = some r := by rw [if_pos rfl] at H; exact H
   clear H
   have H := H1
   clear H1
   replace H := Option.bind_eq_some_iff.mp H
   obtain ⟨t206, A90, H⟩ := H
   replace H : (impl_isPlain.l0 k1 t206 t201 (t201.length : Int) (wrap64 (x14_1 + 1))) = some r := H
   have A9 := Aside0.mk A90
   clear A90
   have H' := Aside0.mk H
   clear H
   have p205 : 0 ≤ (x14_1 : Int) := aD
   have q205 : x14_1 < (t201.length : Int) := aD
   obtain ⟨ad205, e205, hx205_0⟩ := Kd.at_int (Kd.R_reads' HO_12.out).2.2 x14_1 p205 q205
   cases e205
   replace p205 := eq_true p205
   replace q205 := eq_true q205
   go_wp2_with (first | (go_at_call 46; (with_reducible refine (impl_CharOk.calls (rd t201 x14_1) t206 _ A9.out).mono ?_); rintro e w' ⟨rfl, ⟨nd, rfl⟩⟩))
   go_roundg k1
   case measure => have := HK1.out; omega
   case rel => exact ⟨(t206), (wrap64 (x14_1 + 1)), aR, aR, H', ⟨by have := HK1.out; omega⟩, ⟨aP HO_12.out⟩, ⟨aB⟩⟩
def stringslite_IndexByte.f (a0 : ByteArray) (a1 : Int) : Option (Int) := some (Lib.indexByte a0.data.toList a1.toNat.toUInt8)
set_option maxHeartbeats 8000000 in
set_option maxRecDepth 100000 in
theorem stringslite_IndexByte.calls (a0 : ByteArray) (a1 : Int) (r : Int) (w : World) (h : stringslite_IndexByte.f a0 a1 = some r) :
    Calls Tryz.prog 76 #[.string a0, .int .u8 a1] w fun e w' => e = .returned (.int .i64 r) ∧ Drawn0 w w' := by
  obtain rfl := Option.some.inj h
  clear h
  go_enter Tryz.func76, Tryz.ntmps76
  go_wp2
  rw [run_callFunc_extern Tryz.func90 (by kernel_rfl) (by kernel_rfl) (by kernel_rfl) (e := Extern.BytealgIndexByte.indexByte) (by kernel_rfl), Lib.run_indexByteString]
  simp only [Result.andThen]
  rw [Oper.upon_value]
  go_wp2
  go_ret
  exact ⟨rfl, Drawn0.refl _⟩
def stringslite_Index.f (a0 : ByteArray) (a1 : ByteArray) : Option (Int) := if (a1.size : Int) = 1 then (if a1.toList = a0.toList then (some 0) else (stringslite_IndexByte.f a0 (bt a1 0))) else none
set_option maxHeartbeats 8000000 in
set_option maxRecDepth 100000 in
theorem stringslite_Index.calls (a0 : ByteArray) (a1 : ByteArray) (r : Int) (w : World) (h : stringslite_Index.f a0 a1 = some r) :
    Calls Tryz.prog 69 #[.string a0, .string a1] w fun e w' => e = .returned (.int .i64 r) ∧ Drawn0 w w' := by
  have H : (if (a1.size : Int) = 1 then (if a1.toList = a0.toList then (some 0) else (stringslite_IndexByte.f a0 (bt a1 0))) else none) = some r := h
  clear h
  by_cases c1 : (a1.size : Int) = 1
  rotate_left
  · rw [if_neg c1] at H
    cases H
  rw [if_pos c1] at H
  have c1b0 : ((a1.size : Int) == 1) = true := beq_iff_eq.mpr c1
  have c1b1 : ((a1.size : Int) == 0) = false := beq_eq_false_iff_ne.mpr (by omega)
  have q6 : 0 < a1.size := by omega
  have hx6 : ∀ h : 0 < a1.size, ((a1[0]'h).toNat : Int) = bt a1 0 := bt_at a1 0
  have qi6 : (0 < (a1.size : Int)) = True := eq_true (by omega)
  replace q6 := eq_true q6
  clear c1
  by_cases c2 : a1.toList = a0.toList
  · rw [if_pos c2] at H
    have c2b0 : (a1.toList == a0.toList) = true := beq_iff_eq.mpr c2
    clear c2
    obtain rfl := Option.some.inj H
    go_enter Tryz.func69, Tryz.ntmps69
    go_wp2
    go_ret
    exact ⟨by first | rfl | (simp; done) | (simp [*]; done), by repeat (first | exact Drawn0.refl _ | apply Drawn0.step)⟩
  rw [if_neg c2] at H
  have c2b0 : (a1.toList == a0.toList) = false := beq_eq_false_iff_ne.mpr c2
  clear c2
  have H' := Aside0.mk H
  clear H
  go_enter Tryz.func69, Tryz.ntmps69
  go_wp2_with (first | (go_at_call 76; (with_reducible refine (stringslite_IndexByte.calls a0 (bt a1 0) r _ H'.out).mono ?_); rintro e w' ⟨rfl, ⟨nd, rfl⟩⟩))
  go_ret
  exact ⟨by first | rfl | (simp; done) | (simp [*]; done), by repeat (first | exact Drawn0.refl _ | apply Drawn0.step)⟩
def stringslite_Cut.f (a0 : ByteArray) (a1 : ByteArray) : Option (ByteArray × ByteArray × Bool) := (stringslite_Index.f a0 a1).bind fun t207 => (if t207 ≥ 0 then (if 0 ≤ t207 then (if t207 ≤ (a0.size : Int) then (if 0 ≤ (wrap64 (t207 + (a1.size : Int))) then (if (wrap64 (t207 + (a1.size : Int))) ≤ (a0.size : Int) then (some (a0.extract 0 (t207 : Int).toNat, a0.extract ((wrap64 (t207 + (a1.size : Int))) : Int).toNat a0.size, true)) else (none)) else (none)) else (none)) else (none)) else (some (a0, (⟨#[]⟩ : ByteArray), false)))
set_option maxHeartbeats 8000000 in
set_option maxRecDepth 100000 in
theorem stringslite_Cut.calls (a0 : ByteArray) (a1 : ByteArray) (r1 : ByteArray) (r2 : ByteArray) (r3 : Bool) (w : World) (h : stringslite_Cut.f a0 a1 = some (r1, r2, r3)) :
  Calls Tryz.prog 62 #[.string a0, .string a1] w fun e w' => e = .returned (.tuple #[.string r1, .string r2, .bool r3]) ∧ Drawn0 w w' := by
 have H : ((stringslite_Index.f a0 a1).bind fun t207 => (if t207 ≥ 0 then (if 0 ≤ t207 then (if t207 ≤ (a0.size : Int) then (if 0 ≤ (wrap64 (t207 + (a1.size : Int))) then (if (wrap64 (t207 + (a1.size : Int))) ≤ (a0.size : Int) then (some (a0.extract 0 (t207 : Int).toNat, a0.extract ((wrap64 (t207 + (a1.size : Int))) : Int).toNat a0.size, true)) else (none)) else (none)) else (none)) else (none)) else (some (a0, (⟨#[]⟩ : ByteArray), false)))) = some (r1, r2, r3) := h
 clear h
 replace H := Option.bind_eq_some_iff.mp H
 obtain ⟨t207, A30, H⟩ := H
 replace H : (if t207 ≥ 0 then (if 0 ≤ t207 then (if t207 ≤ (a0.size : Int) then (if 0 ≤ (wrap64 (t207 + (a1.size : Int))) then (if (wrap64 (t207 + (a1.size : Int))) ≤ (a0.size : Int) then (some (a0.extract 0 (t207 : Int).toNat, a0.extract ((wrap64 (t207 + (a1.size : Int))) : Int).toNat a0.size, true)) else (none)) else (none)) else (none)) else (none)) else (some (a0, (⟨#[]⟩ : ByteArray), false))) = some (r1, r2, r3) := H
 have A3 := Aside0.mk A30
 clear A30
 by_cases c4 : t207 ≥ 0
 rotate_left
 ·rw [if_neg c4] at H
  have c4b0 : decide (0 ≤ t207) = false := decide_eq_false c4
  clear c4
  simp only [Option.some.injEq, Prod.mk.injEq] at H
  obtain ⟨rfl, rfl, rfl⟩ := H
  go_enter Tryz.func62, Tryz.ntmps62
  go_wp2_with (first | (go_at_call 69; (with_reducible refine (stringslite_Index.calls a0 a1 t207 _ A3.out).mono ?_); rintro e w' ⟨rfl, ⟨nd, rfl⟩⟩; (try first | exact aZ1 | exact aZ2)))
  repeat (go_quiet (first | (go_at_call 69; (with_reducible refine (stringslite_Index.calls a0 a1 t207 _ A3.out).mono ?_); rintro e w' ⟨rfl, ⟨nd, rfl⟩⟩; (try first | exact aZ1 | exact aZ2))); try go_wp2_with (first | (go_at_call 69; (with_reducible refine (stringslite_Index.calls a0 a1 t207 _ A3.out).mono ?_); rintro e w' ⟨rfl, ⟨nd, rfl⟩⟩; (try first | exact aZ1 | exact aZ2))))
  go_ret3
  exact ⟨by first | rfl | (simp; done) | (simp [*]; done), by repeat (first | exact Drawn0.refl _ | apply Drawn0.step)⟩
 rw [if_pos c4] at H
 have c4b0 : decide (0 ≤ t207) = true := decide_eq_true c4
 clear c4
 by_cases c5 : 0 ≤ t207
 rotate_left
 ·rw [if_neg c5] at H
  exact absurd H (by simp)
 rw [if_pos c5] at H
 have c5b0 := eq_true c5
 have c5b1 : decide (0 ≤ t207) = true := decide_eq_true c5
 clear c5
 by_cases c6 : t207 ≤ (a0.size : Int)
 rotate_left
 ·rw [if_neg c6] at H
  exact absurd H (by simp)
 rw [if_pos c6] at H
 have c6b0 := eq_true c6
 have c6b1 : decide (t207 ≤ (a0.size : Int)) = true := decide_eq_true c6
 clear c6
 obtain ⟨ji7, hji7⟩ : ∃ j_ : Int, (wrap64 (t207 + (a1.size : Int))) = j_ := ⟨_, rfl⟩
 replace H : (if 0 ≤ (ji7) then (if (ji7) ≤ (a0.size : Int) then (some (a0.extract 0 (t207 : Int).toNat, a0.extract ((ji7) : Int).toNat a0.size, true)) else (none)) else (none)) = some (r1, r2, r3) := by first | (rw [hji7] at H; exact H) | (simp only [hji7] at H ⊢; exact H)
 (try rw [hji7] at A3)
 have hji7w : (IntKind.i64.wrap (t207 + (a1.size : Int))) = ji7 := (i64_w _).trans hji7
 by_cases c8 : 0 ≤ (ji7)
 rotate_left
 ·rw [if_neg c8] at H
  exact absurd H (by simp)
 rw [if_pos c8] at H
 have c8b0 := eq_true c8
 have c8b1 : decide (0 ≤ (ji7)) = true := decide_eq_true c8
 clear c8
 by_cases c9 : (ji7) ≤ (a0.size : Int)
 rotate_left
 ·rw [if_neg c9] at H
  exact absurd H (by simp)
 rw [if_pos c9] at H
 have c9b0 := eq_true c9
 have c9b1 : decide ((ji7) ≤ (a0.size : Int)) = true := decide_eq_true c9
 clear c9
 simp only [Option.some.injEq, Prod.mk.injEq] at H
 obtain ⟨rfl, rfl, rfl⟩ := H
 go_enter Tryz.func62, Tryz.ntmps62
 go_wp2_with (first | (go_at_call 69; (with_reducible refine (stringslite_Index.calls a0 a1 t207 _ A3.out).mono ?_); rintro e w' ⟨rfl, ⟨nd, rfl⟩⟩; (try first | exact aZ1 | exact aZ2)))
 repeat (go_quiet (first | (go_at_call 69; (with_reducible refine (stringslite_Index.calls a0 a1 t207 _ A3.out).mono ?_); rintro e w' ⟨rfl, ⟨nd, rfl⟩⟩; (try first | exact aZ1 | exact aZ2))); try go_wp2_with (first | (go_at_call 69; (with_reducible refine (stringslite_Index.calls a0 a1 t207 _ A3.out).mono ?_); rintro e w' ⟨rfl, ⟨nd, rfl⟩⟩; (try first | exact aZ1 | exact aZ2))))
 go_ret3
 exact ⟨by first | rfl | (simp; done) | (simp only [← hji7] <;> (first | rfl | simp)) | (simp [*]; done), by repeat (first | exact Drawn0.refl _ | apply Drawn0.step)⟩
def strings_Cut.f (a0 : ByteArray) (a1 : ByteArray) : Option (ByteArray × ByteArray × Bool) := (stringslite_Cut.f a0 a1).bind fun bt208 => (some (bt208.1, bt208.2.1, bt208.2.2))
set_option maxHeartbeats 8000000 in
set_option maxRecDepth 100000 in
theorem strings_Cut.calls (a0 : ByteArray) (a1 : ByteArray) (r1 : ByteArray) (r2 : ByteArray) (r3 : Bool) (w : World) (h : strings_Cut.f a0 a1 = some (r1, r2, r3)) :
  Calls Tryz.prog 55 #[.string a0, .string a1] w fun e w' => e = .returned (.tuple #[.string r1, .string r2, .bool r3]) ∧ Drawn0 w w' := by
 have H : ((stringslite_Cut.f a0 a1).bind fun bt208 => (some (bt208.1, bt208.2.1, bt208.2.2))) = some (r1, r2, r3) := h
 clear h
 replace H := Option.bind_eq_some_iff.mp H
 obtain ⟨⟨t208, t209, t210⟩, A30, H⟩ := H
 replace H : (some (t208, t209, t210)) = some (r1, r2, r3) := H
 have A3 := Aside0.mk A30
 clear A30
 simp only [Option.some.injEq, Prod.mk.injEq] at H
 obtain ⟨rfl, rfl, rfl⟩ := H
 go_enter Tryz.func55, Tryz.ntmps55
 go_wp2_with (first | ((with_reducible refine gate_callee (f := 62) rfl ?_); refine goesL_ (some 9) rfl rfl Tryz.func62 (by kernel_rfl) rfl #[.string a0, .string a1] rfl aG ?_; (with_reducible refine (stringslite_Cut.calls a0 a1 t208 t209 t210 _ A3.out).mono ?_); rintro e w' ⟨rfl, ⟨nd, rfl⟩⟩; refine ⟨_, rfl, ?_⟩))
 go_ret3
 exact ⟨by first | rfl | (simp; done) | (simp [*]; done), by repeat (first | exact Drawn0.refl _ | apply Drawn0.step)⟩
end Go.Proofs.YtbhklkpjjpkblaaGreatDoor.PP
