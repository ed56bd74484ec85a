import Derived.Test.YtbhklkpjjpkblaaGreatDoorHShort
import Derived.Test.YtbhklkpjjpkblaaGreatDoorPPx0
import Derived.Test.YtbhklkpjjpkblaaGreatDoorPPx5
import Derived.Test.YtbhklkpjjpkblaaGreatDoorPPx6
namespace Go.Proofs.YtbhklkpjjpkblaaGreatDoor.PP
open Go.RowKit Go.Proofs.YtbhklkpjjpkblaaGreatDoorW.PrintWords Go.Proofs.YtbhklkpjjpkblaaGreatDoorW.PrintLast Go.Proofs.YtbhklkpjjpkblaaGreatDoorW.PrintMore Go.Proofs.YtbhklkpjjpkblaaGreatDoorW.WordsB Go.Proofs.YtbhklkpjjpkblaaGreatDoorW.GlM Go.Proofs.YtbhklkpjjpkblaaGreatDoorW.Short
attribute [local go_sem] max2_int min2_int max_two min_two max_three min_three max_four min_four
set_option linter.unusedVariables false
set_option linter.unusedSimpArgs false
mutual
def spec_l2Print.l0 : Nat → List (S39) → Int → ByteArray → Int → Int → ByteArray → ByteArray → List (S52) → Option (ByteArray × Int)
 | 0, _, _, _, _, _, _, _, _ => none
 | k + 1, x0, x1, x7, x8, x161000, x161001, x161002, x161003 => if x8 < (x161003.length : Int) then (if x7.size + 1 ≤ 9223372036854775807 then (if 0 ≤ x8 then (if x7.size + 1 + ((rd_T52 x161003 x8).f0).size ≤ 9223372036854775807 then (if x7.size + 1 + ((rd_T52 x161003 x8).f0).size + 2 ≤ 9223372036854775807 then ((spec_l2Escape.f k ((rd_T52 x161003 x8).f1) true).bind fun t164 => (if x7.size + 1 + ((rd_T52 x161003 x8).f0).size + 2 + t164.size ≤ 9223372036854775807 then (if x7.size + 1 + ((rd_T52 x161003 x8).f0).size + 2 + t164.size + 1 ≤ 9223372036854775807 then (spec_l2Print.l0 k x0 x1 (((((x7 ++ (⟨#[32]⟩ : ByteArray)) ++ ((rd_T52 x161003 x8).f0)) ++ (⟨#[61, 34]⟩ : ByteArray)) ++ t164) ++ (⟨#[34]⟩ : ByteArray)) (wrap64 (x8 + 1)) x161000 x161001 x161002 x161003) else (none)) else (none))) else (none)) else (none)) else (none)) else (none)) else (spec_l2Print.l1 k x0 x1 x7 (wrap64 (x1 + 1)) (⟨#[]⟩ : ByteArray) x161000 x161001 x161002 x161003)
def spec_l2Print.l1 : Nat → List (S39) → Int → ByteArray → Int → ByteArray → Int → ByteArray → ByteArray → List (S52) → Option (ByteArray × Int)
 | 0, _, _, _, _, _, _, _, _, _ => none
 | k + 1, x0, x1, x7, x9, x10, x161000, x161001, x161002, x161003 => if x9 < (x0.length : Int) then (if 0 ≤ x9 then (if ((rd_T39 x0 x9).f0) = x1 then ((spec_l2Print.f k x0 x9).bind fun bt166 => (if x10.size + bt166.1.size ≤ 9223372036854775807 then (spec_l2Print.l1 k x0 x1 x7 bt166.2 (x10 ++ bt166.1) x161000 x161001 x161002 x161003) else (none))) else (if x9 = (wrap64 (x1 + 1)) then (if x7.size + 2 ≤ 9223372036854775807 then (some (x7 ++ (⟨#[47, 62]⟩ : ByteArray), x9)) else (none)) else (if x7.size + 1 ≤ 9223372036854775807 then (if x7.size + 1 + x10.size ≤ 9223372036854775807 then (if x7.size + 1 + x10.size + 2 ≤ 9223372036854775807 then (if x7.size + 1 + x10.size + 2 + x161001.size ≤ 9223372036854775807 then (if x7.size + 1 + x10.size + 2 + x161001.size + 1 ≤ 9223372036854775807 then (some (((((x7 ++ (⟨#[62]⟩ : ByteArray)) ++ x10) ++ (⟨#[60, 47]⟩ : ByteArray)) ++ x161001) ++ (⟨#[62]⟩ : ByteArray), x9)) else (none)) else (none)) else (none)) else (none)) else (none)))) else (none)) else (if x9 = (wrap64 (x1 + 1)) then (if x7.size + 2 ≤ 9223372036854775807 then (some (x7 ++ (⟨#[47, 62]⟩ : ByteArray), x9)) else (none)) else (if x7.size + 1 ≤ 9223372036854775807 then (if x7.size + 1 + x10.size ≤ 9223372036854775807 then (if x7.size + 1 + x10.size + 2 ≤ 9223372036854775807 then (if x7.size + 1 + x10.size + 2 + x161001.size ≤ 9223372036854775807 then (if x7.size + 1 + x10.size + 2 + x161001.size + 1 ≤ 9223372036854775807 then (some (((((x7 ++ (⟨#[62]⟩ : ByteArray)) ++ x10) ++ (⟨#[60, 47]⟩ : ByteArray)) ++ x161001) ++ (⟨#[62]⟩ : ByteArray), x9)) else (none)) else (none)) else (none)) else (none)) else (none)))
def spec_l2Print.f : Nat → List (S39) → Int → Option (ByteArray × Int)
 | 0, _, _ => none
 | k + 1, l0, a1 => if 0 ≤ a1 then (if a1 < (l0.length : Int) then (if ((rd_T39 l0 a1).f1).toList = ([] : List UInt8) then ((spec_l2Escape.f k ((rd_T39 l0 a1).f2) false).bind fun t161 => (some (t161, wrap64 (a1 + 1)))) else (if 1 + ((rd_T39 l0 a1).f1).size ≤ 9223372036854775807 then (spec_l2Print.l0 k l0 a1 ((⟨#[60]⟩ : ByteArray) ++ ((rd_T39 l0 a1).f1)) 0 ((rd_T39 l0 a1).f0) ((rd_T39 l0 a1).f1) ((rd_T39 l0 a1).f2) ((rd_T39 l0 a1).f3)) else (none))) else (none)) else (none)
end
set_option maxHeartbeats 8000000 in
set_option maxRecDepth 100000 in
theorem spec_l2Print.calls (k : Nat) : ∀ (A0 : Option Addr) (c0 : Nat) (l0 : List (S39)) (a1 : Int) (r1 : ByteArray) (r2 : Int) (w : World) (hr0 : Kd.C k39 w A0 l0.length l0) (hc0 : l0.length ≤ c0) (h : spec_l2Print.f k l0 a1 = some (r1, r2)),
  Calls Tryz.prog 11 #[.slice A0 l0.length c0, .int .i64 a1] w fun e w' => e = .returned (.tuple #[.string r1, .int .i64 r2]) ∧ Below w.heap.size w w' := by
 induction k using Nat.strongRecOn with
 | _ k ih =>
 intro A0 c0 l0 a1 r1 r2 w hr0 hc0 h
 cases k with
 | zero => exact absurd h (by simp [spec_l2Print.f])
 | succ k =>
 simp only [spec_l2Print.f] at h
 have hu39 := Tryz.underlying39
 have HR0 := Aside0.mk hr0
 have HC0 := Aside0.mk hc0
 clear hr0 hc0
 have HB := Aside0.mk (Below.refl w.heap.size w)
 have H : (if 0 ≤ a1 then (if a1 < (l0.length : Int) then (if ((rd_T39 l0 a1).f1).toList = ([] : List UInt8) then ((spec_l2Escape.f k ((rd_T39 l0 a1).f2) false).bind fun t161 => (some (t161, wrap64 (a1 + 1)))) else (if 1 + ((rd_T39 l0 a1).f1).size ≤ 9223372036854775807 then (spec_l2Print.l0 k l0 a1 ((⟨#[60]⟩ : ByteArray) ++ ((rd_T39 l0 a1).f1)) 0 ((rd_T39 l0 a1).f0) ((rd_T39 l0 a1).f1) ((rd_T39 l0 a1).f2) ((rd_T39 l0 a1).f3)) else (none))) else (none)) else (none)) = some (r1, r2) := h
 clear h
 by_cases c3 : 0 ≤ a1
 rotate_left
 ·rw [if_neg c3] at H
  exact absurd H (by simp)
 rw [if_pos c3] at H
 have c3b0 : decide (0 ≤ a1) = true := decide_eq_true c3
 clear c3
 by_cases c4 : a1 < (l0.length : Int)
 rotate_left
 ·rw [if_neg c4] at H
  exact absurd H (by simp)
 rw [if_pos c4] at H
 have c4b0 : decide (a1 < (l0.length : Int)) = true := decide_eq_true c4
 clear c4
 by_cases c5 : ((rd_T39 l0 a1).f1).toList = ([] : List UInt8)
 ·rw [if_pos c5] at H
  have c5b0 : (((rd_T39 l0 a1).f1).toList == ([] : List UInt8)) = true := beq_iff_eq.mpr c5
  have c5b1 : (((rd_T39 l0 a1).f1).toList != ([] : List UInt8)) = false := bne_eq_false_iff_eq.mpr c5
  have c5b2 : (((rd_T39 l0 a1).f1)).toList.isEmpty = true := by (first | exact (List.isEmpty_iff.mpr (eq_of_beq c5b0)) | exact (Bool.eq_false_iff.mpr (fun h_ => by rw [List.isEmpty_iff.mp h_] at c5b0; cases c5b0)))
  clear c5
  replace H := Option.bind_eq_some_iff.mp H
  obtain ⟨t161, A60, H⟩ := H
  replace H : (some (t161, wrap64 (a1 + 1))) = some (r1, r2) := H
  have A6 := Aside0.mk A60
  clear A60
  simp only [Option.some.injEq, Prod.mk.injEq] at H
  obtain ⟨rfl, rfl⟩ := H
  have p159 : 0 ≤ (a1 : Int) := aD
  have q159 : a1 < (l0.length : Int) := aD
  obtain ⟨ad159, A159_3, c159_3, e159, hx159_0, hx159_1, hx159_2, hx159_3, hl159_3, hi159_3⟩ := at_T39 HR0.out a1 p159 q159
  cases e159
  have HR159_3 := Aside0.mk hi159_3
  have HC159_3 := Aside0.mk hl159_3
  clear hi159_3 hl159_3
  replace p159 := eq_true p159
  replace q159 := eq_true q159
  go_enter Tryz.func11, Tryz.ntmps11
  go_wp2_with (first | ((with_reducible refine gate_dst (N := 6) rfl ?_); refine box_event ?hg (N := 6) ?hd (cs := #[.int .i64 0, .string (⟨#[]⟩ : ByteArray), .string (⟨#[]⟩ : ByteArray), .slice none 0 0]) (t := 39) ?hr ?_; (case hd => rfl); (case hg => rfl); (case hr => first | (go_simp; done) | (go_simp; rfl)); intro gb160 hg w7 hbox hb; have n0_ := Aside0.mk (below_step aB hb); have n1_ := Aside0.mk (hbox); have n2_ := Aside0.mk ((by rw [hg]; exact (below_size aB) : w.heap.size ≤ gb160)); have n3_ := Aside0.mk ((by rw [hg]; exact (below_size aB) : w.heap.size ≤ gb160)); clear HB; have HB := n0_; have BK160 := n1_; have GW160 := n2_; have GE160 := n3_; clear n0_ n1_ n2_ n3_; clear hb hbox hg; have hcz8_0 : w7.cell? ⟨gb160, 0, none⟩ = some (.int .i64 0) := (blk_cell BK160.out 0).trans rfl; have hcz8_1 : w7.cell? ⟨gb160, 1, none⟩ = some (.string (⟨#[]⟩ : ByteArray)) := (blk_cell BK160.out 1).trans rfl; have hcz8_2 : w7.cell? ⟨gb160, 2, none⟩ = some (.string (⟨#[]⟩ : ByteArray)) := (blk_cell BK160.out 2).trans rfl; have hcz8_3 : w7.cell? ⟨gb160, 3, none⟩ = some (.slice none 0 0) := (blk_cell BK160.out 3).trans rfl; have hfz8_0 := blk_frozen BK160.out 0; have hfz8_1 := blk_frozen BK160.out 1; have hfz8_2 := blk_frozen BK160.out 2; have hfz8_3 := blk_frozen BK160.out 3) | ((with_reducible refine gate_store (t := 39) (p := 6) rfl ?_); (try (rw [drewN_self w7]; generalize hq_ : World.drewN w7 _ = w7; have n0_ := Aside0.mk (blk_at hq_ BK160.out); have n1_ := Aside0.mk (below_at hq_ HB.out); clear hq_ BK160 HB; have BK160 := n0_; have HB := n1_; clear n0_ n1_)); refine store_event (t := 39) (p := 6) (v := ?vo_w9) (w1 := ((((w7.setCell ⟨gb160, 0, none⟩ (.int .i64 ((rd_T39 l0 a1).f0))).setCell ⟨gb160, 1, none⟩ (.string ((rd_T39 l0 a1).f1))).setCell ⟨gb160, 2, none⟩ (.string ((rd_T39 l0 a1).f2))).setCell ⟨gb160, 3, none⟩ (.slice A159_3 ((rd_T39 l0 a1).f3).length c159_3))) ?hg ?ho ?hn ?hr ?_; (case ho => rfl); (case hg => rfl); (case hn => rfl); (case hr => first | (go_simp; done) | (go_simp; rfl)); intro w9 hw; have n0_ : Aside0 (w9.heap[gb160]? = some (.cells #[.int .i64 ((rd_T39 l0 a1).f0), .string ((rd_T39 l0 a1).f1), .string ((rd_T39 l0 a1).f2), .slice A159_3 ((rd_T39 l0 a1).f3).length c159_3] 39 (0, 0))) := ⟨(by rw [hw]; exact (by (with_reducible repeat (first | apply d1 | apply d2 | apply d3)); refine blk_put (cs := #[.int .i64 ((rd_T39 l0 a1).f0), .string ((rd_T39 l0 a1).f1), .string ((rd_T39 l0 a1).f2), .slice none 0 0]) ?_ 3 _ rfl; (with_reducible repeat (first | apply d1 | apply d2 | apply d3)); refine blk_put (cs := #[.int .i64 ((rd_T39 l0 a1).f0), .string ((rd_T39 l0 a1).f1), .string (⟨#[]⟩ : ByteArray), .slice none 0 0]) ?_ 2 _ rfl; (with_reducible repeat (first | apply d1 | apply d2 | apply d3)); refine blk_put (cs := #[.int .i64 ((rd_T39 l0 a1).f0), .string (⟨#[]⟩ : ByteArray), .string (⟨#[]⟩ : ByteArray), .slice none 0 0]) ?_ 1 _ rfl; (with_reducible repeat (first | apply d1 | apply d2 | apply d3)); refine blk_put (cs := #[.int .i64 0, .string (⟨#[]⟩ : ByteArray), .string (⟨#[]⟩ : ByteArray), .slice none 0 0]) ?_ 0 _ rfl; (with_reducible repeat (first | apply d1 | apply d2 | apply d3)); exact BK160.out))⟩; have n1_ : Aside0 (Below w.heap.size w w9) := ⟨(by rw [hw]; exact aE)⟩; clear hw; clear BK160; clear HB; have BK160 := n0_; have HB := n1_; clear n0_ n1_; have hcz10_0 : w9.cell? ⟨gb160, 0, none⟩ = some (.int .i64 ((rd_T39 l0 a1).f0)) := (blk_cell BK160.out 0).trans rfl; have hcz10_1 : w9.cell? ⟨gb160, 1, none⟩ = some (.string ((rd_T39 l0 a1).f1)) := (blk_cell BK160.out 1).trans rfl; have hcz10_2 : w9.cell? ⟨gb160, 2, none⟩ = some (.string ((rd_T39 l0 a1).f2)) := (blk_cell BK160.out 2).trans rfl; have hcz10_3 : w9.cell? ⟨gb160, 3, none⟩ = some (.slice A159_3 ((rd_T39 l0 a1).f3).length c159_3) := (blk_cell BK160.out 3).trans rfl; have hfz10_0 := blk_frozen BK160.out 0; have hfz10_1 := blk_frozen BK160.out 1; have hfz10_2 := blk_frozen BK160.out 2; have hfz10_3 := blk_frozen BK160.out 3) | (go_at_call 24; (with_reducible refine (spec_l2Escape.calls k ((rd_T39 l0 a1).f2) false t161 _ A6.out).mono ?_); rintro e w' ⟨rfl, ⟨nd, rfl⟩⟩; (try first | exact aZ1 | exact aZ2)))
  repeat (go_quiet (first | ((with_reducible refine gate_dst (N := 6) rfl ?_); refine box_event ?hg (N := 6) ?hd (cs := #[.int .i64 0, .string (⟨#[]⟩ : ByteArray), .string (⟨#[]⟩ : ByteArray), .slice none 0 0]) (t := 39) ?hr ?_; (case hd => rfl); (case hg => rfl); (case hr => first | (go_simp; done) | (go_simp; rfl)); intro gb160 hg w7 hbox hb; have n0_ := Aside0.mk (below_step aB hb); have n1_ := Aside0.mk (hbox); have n2_ := Aside0.mk ((by rw [hg]; exact (below_size aB) : w.heap.size ≤ gb160)); have n3_ := Aside0.mk ((by rw [hg]; exact (below_size aB) : w.heap.size ≤ gb160)); clear HB; have HB := n0_; have BK160 := n1_; have GW160 := n2_; have GE160 := n3_; clear n0_ n1_ n2_ n3_; clear hb hbox hg; have hcz8_0 : w7.cell? ⟨gb160, 0, none⟩ = some (.int .i64 0) := (blk_cell BK160.out 0).trans rfl; have hcz8_1 : w7.cell? ⟨gb160, 1, none⟩ = some (.string (⟨#[]⟩ : ByteArray)) := (blk_cell BK160.out 1).trans rfl; have hcz8_2 : w7.cell? ⟨gb160, 2, none⟩ = some (.string (⟨#[]⟩ : ByteArray)) := (blk_cell BK160.out 2).trans rfl; have hcz8_3 : w7.cell? ⟨gb160, 3, none⟩ = some (.slice none 0 0) := (blk_cell BK160.out 3).trans rfl; have hfz8_0 := blk_frozen BK160.out 0; have hfz8_1 := blk_frozen BK160.out 1; have hfz8_2 := blk_frozen BK160.out 2; have hfz8_3 := blk_frozen BK160.out 3) | ((with_reducible refine gate_store (t := 39) (p := 6) rfl ?_); (try (rw [drewN_self w7]; generalize hq_ : World.drewN w7 _ = w7; have n0_ := Aside0.mk (blk_at hq_ BK160.out); have n1_ := Aside0.mk (below_at hq_ HB.out); clear hq_ BK160 HB; have BK160 := n0_; have HB := n1_; clear n0_ n1_)); refine store_event (t := 39) (p := 6) (v := ?vo_w9) (w1 := ((((w7.setCell ⟨gb160, 0, none⟩ (.int .i64 ((rd_T39 l0 a1).f0))).setCell ⟨gb160, 1, none⟩ (.string ((rd_T39 l0 a1).f1))).setCell ⟨gb160, 2, none⟩ (.string ((rd_T39 l0 a1).f2))).setCell ⟨gb160, 3, none⟩ (.slice A159_3 ((rd_T39 l0 a1).f3).length c159_3))) ?hg ?ho ?hn ?hr ?_; (case ho => rfl); (case hg => rfl); (case hn => rfl); (case hr => first | (go_simp; done) | (go_simp; rfl)); intro w9 hw; have n0_ : Aside0 (w9.heap[gb160]? = some (.cells #[.int .i64 ((rd_T39 l0 a1).f0), .string ((rd_T39 l0 a1).f1), .string ((rd_T39 l0 a1).f2), .slice A159_3 ((rd_T39 l0 a1).f3).length c159_3] 39 (0, 0))) := ⟨(by rw [hw]; exact (by (with_reducible repeat (first | apply d1 | apply d2 | apply d3)); refine blk_put (cs := #[.int .i64 ((rd_T39 l0 a1).f0), .string ((rd_T39 l0 a1).f1), .string ((rd_T39 l0 a1).f2), .slice none 0 0]) ?_ 3 _ rfl; (with_reducible repeat (first | apply d1 | apply d2 | apply d3)); refine blk_put (cs := #[.int .i64 ((rd_T39 l0 a1).f0), .string ((rd_T39 l0 a1).f1), .string (⟨#[]⟩ : ByteArray), .slice none 0 0]) ?_ 2 _ rfl; (with_reducible repeat (first | apply d1 | apply d2 | apply d3)); refine blk_put (cs := #[.int .i64 ((rd_T39 l0 a1).f0), .string (⟨#[]⟩ : ByteArray), .string (⟨#[]⟩ : ByteArray), .slice none 0 0]) ?_ 1 _ rfl; (with_reducible repeat (first | apply d1 | apply d2 | apply d3)); refine blk_put (cs := #[.int .i64 0, .string (⟨#[]⟩ : ByteArray), .string (⟨#[]⟩ : ByteArray), .slice none 0 0]) ?_ 0 _ rfl; (with_reducible repeat (first | apply d1 | apply d2 | apply d3)); exact BK160.out))⟩; have n1_ : Aside0 (Below w.heap.size w w9) := ⟨(by rw [hw]; exact aE)⟩; clear hw; clear BK160; clear HB; have BK160 := n0_; have HB := n1_; clear n0_ n1_; have hcz10_0 : w9.cell? ⟨gb160, 0, none⟩ = some (.int .i64 ((rd_T39 l0 a1).f0)) := (blk_cell BK160.out 0).trans rfl; have hcz10_1 : w9.cell? ⟨gb160, 1, none⟩ = some (.string ((rd_T39 l0 a1).f1)) := (blk_cell BK160.out 1).trans rfl; have hcz10_2 : w9.cell? ⟨gb160, 2, none⟩ = some (.string ((rd_T39 l0 a1).f2)) := (blk_cell BK160.out 2).trans rfl; have hcz10_3 : w9.cell? ⟨gb160, 3, none⟩ = some (.slice A159_3 ((rd_T39 l0 a1).f3).length c159_3) := (blk_cell BK160.out 3).trans rfl; have hfz10_0 := blk_frozen BK160.out 0; have hfz10_1 := blk_frozen BK160.out 1; have hfz10_2 := blk_frozen BK160.out 2; have hfz10_3 := blk_frozen BK160.out 3) | (go_at_call 24; (with_reducible refine (spec_l2Escape.calls k ((rd_T39 l0 a1).f2) false t161 _ A6.out).mono ?_); rintro e w' ⟨rfl, ⟨nd, rfl⟩⟩; (try first | exact aZ1 | exact aZ2))); try go_wp2_with (first | ((with_reducible refine gate_dst (N := 6) rfl ?_); refine box_event ?hg (N := 6) ?hd (cs := #[.int .i64 0, .string (⟨#[]⟩ : ByteArray), .string (⟨#[]⟩ : ByteArray), .slice none 0 0]) (t := 39) ?hr ?_; (case hd => rfl); (case hg => rfl); (case hr => first | (go_simp; done) | (go_simp; rfl)); intro gb160 hg w7 hbox hb; have n0_ := Aside0.mk (below_step aB hb); have n1_ := Aside0.mk (hbox); have n2_ := Aside0.mk ((by rw [hg]; exact (below_size aB) : w.heap.size ≤ gb160)); have n3_ := Aside0.mk ((by rw [hg]; exact (below_size aB) : w.heap.size ≤ gb160)); clear HB; have HB := n0_; have BK160 := n1_; have GW160 := n2_; have GE160 := n3_; clear n0_ n1_ n2_ n3_; clear hb hbox hg; have hcz8_0 : w7.cell? ⟨gb160, 0, none⟩ = some (.int .i64 0) := (blk_cell BK160.out 0).trans rfl; have hcz8_1 : w7.cell? ⟨gb160, 1, none⟩ = some (.string (⟨#[]⟩ : ByteArray)) := (blk_cell BK160.out 1).trans rfl; have hcz8_2 : w7.cell? ⟨gb160, 2, none⟩ = some (.string (⟨#[]⟩ : ByteArray)) := (blk_cell BK160.out 2).trans rfl; have hcz8_3 : w7.cell? ⟨gb160, 3, none⟩ = some (.slice none 0 0) := (blk_cell BK160.out 3).trans rfl; have hfz8_0 := blk_frozen BK160.out 0; have hfz8_1 := blk_frozen BK160.out 1; have hfz8_2 := blk_frozen BK160.out 2; have hfz8_3 := blk_frozen BK160.out 3) | ((with_reducible refine gate_store (t := 39) (p := 6) rfl ?_); (try (rw [drewN_self w7]; generalize hq_ : World.drewN w7 _ = w7; have n0_ := Aside0.mk (blk_at hq_ BK160.out); have n1_ := Aside0.mk (below_at hq_ HB.out); clear hq_ BK160 HB; have BK160 := n0_; have HB := n1_; clear n0_ n1_)); refine store_event (t := 39) (p := 6) (v := ?vo_w9) (w1 := ((((w7.setCell ⟨gb160, 0, none⟩ (.int .i64 ((rd_T39 l0 a1).f0))).setCell ⟨gb160, 1, none⟩ (.string ((rd_T39 l0 a1).f1))).setCell ⟨gb160, 2, none⟩ (.string ((rd_T39 l0 a1).f2))).setCell ⟨gb160, 3, none⟩ (.slice A159_3 ((rd_T39 l0 a1).f3).length c159_3))) ?hg ?ho ?hn ?hr ?_; (case ho => rfl); (case hg => rfl); (case hn => rfl); (case hr => first | (go_simp; done) | (go_simp; rfl)); intro w9 hw; have n0_ : Aside0 (w9.heap[gb160]? = some (.cells #[.int .i64 ((rd_T39 l0 a1).f0), .string ((rd_T39 l0 a1).f1), .string ((rd_T39 l0 a1).f2), .slice A159_3 ((rd_T39 l0 a1).f3).length c159_3] 39 (0, 0))) := ⟨(by rw [hw]; exact (by (with_reducible repeat (first | apply d1 | apply d2 | apply d3)); refine blk_put (cs := #[.int .i64 ((rd_T39 l0 a1).f0), .string ((rd_T39 l0 a1).f1), .string ((rd_T39 l0 a1).f2), .slice none 0 0]) ?_ 3 _ rfl; (with_reducible repeat (first | apply d1 | apply d2 | apply d3)); refine blk_put (cs := #[.int .i64 ((rd_T39 l0 a1).f0), .string ((rd_T39 l0 a1).f1), .string (⟨#[]⟩ : ByteArray), .slice none 0 0]) ?_ 2 _ rfl; (with_reducible repeat (first | apply d1 | apply d2 | apply d3)); refine blk_put (cs := #[.int .i64 ((rd_T39 l0 a1).f0), .string (⟨#[]⟩ : ByteArray), .string (⟨#[]⟩ : ByteArray), .slice none 0 0]) ?_ 1 _ rfl; (with_reducible repeat (first | apply d1 | apply d2 | apply d3)); refine blk_put (cs := #[.int .i64 0, .string (⟨#[]⟩ : ByteArray), .string (⟨#[]⟩ : ByteArray), .slice none 0 0]) ?_ 0 _ rfl; (with_reducible repeat (first | apply d1 | apply d2 | apply d3)); exact BK160.out))⟩; have n1_ : Aside0 (Below w.heap.size w w9) := ⟨(by rw [hw]; exact aE)⟩; clear hw; clear BK160; clear HB; have BK160 := n0_; have HB := n1_; clear n0_ n1_; have hcz10_0 : w9.cell? ⟨gb160, 0, none⟩ = some (.int .i64 ((rd_T39 l0 a1).f0)) := (blk_cell BK160.out 0).trans rfl; have hcz10_1 : w9.cell? ⟨gb160, 1, none⟩ = some (.string ((rd_T39 l0 a1).f1)) := (blk_cell BK160.out 1).trans rfl; have hcz10_2 : w9.cell? ⟨gb160, 2, none⟩ = some (.string ((rd_T39 l0 a1).f2)) := (blk_cell BK160.out 2).trans rfl; have hcz10_3 : w9.cell? ⟨gb160, 3, none⟩ = some (.slice A159_3 ((rd_T39 l0 a1).f3).length c159_3) := (blk_cell BK160.out 3).trans rfl; have hfz10_0 := blk_frozen BK160.out 0; have hfz10_1 := blk_frozen BK160.out 1; have hfz10_2 := blk_frozen BK160.out 2; have hfz10_3 := blk_frozen BK160.out 3) | (go_at_call 24; (with_reducible refine (spec_l2Escape.calls k ((rd_T39 l0 a1).f2) false t161 _ A6.out).mono ?_); rintro e w' ⟨rfl, ⟨nd, rfl⟩⟩; (try first | exact aZ1 | exact aZ2))))
  go_ret2
  exact ⟨by first | rfl | (simp only [aX1, aX2]; rfl) | (simp [*] <;> rfl), aE⟩
 rw [if_neg c5] at H
 have c5b0 : (((rd_T39 l0 a1).f1).toList == ([] : List UInt8)) = false := beq_eq_false_iff_ne.mpr c5
 have c5b1 : (((rd_T39 l0 a1).f1).toList != ([] : List UInt8)) = true := bne_iff_ne.mpr c5
 have c5b2 : (((rd_T39 l0 a1).f1)).toList.isEmpty = false := by (first | exact (List.isEmpty_iff.mpr (eq_of_beq c5b0)) | exact (Bool.eq_false_iff.mpr (fun h_ => by rw [List.isEmpty_iff.mp h_] at c5b0; cases c5b0)))
 by_cases c11 : 1 + ((rd_T39 l0 a1).f1).size ≤ 9223372036854775807
 rotate_left
 ·rw [if_neg c11] at H
  exact absurd H (by simp)
 rw [if_pos c11] at H
 have c11b0 := eq_true c11
 have c11b1 : decide (1 + ((rd_T39 l0 a1).f1).size ≤ 9223372036854775807) = true := decide_eq_true c11
 try have c11b2 : (9223372036854775807 < 1 + ((rd_T39 l0 a1).f1).size) = False := eq_false (Nat.not_lt.2 c11)
 have H' := Aside0.mk H
 clear H
 have p159 : 0 ≤ (a1 : Int) := aD
 have q159 : a1 < (l0.length : Int) := aD
 obtain ⟨ad159, A159_3, c159_3, e159, hx159_0, hx159_1, hx159_2, hx159_3, hl159_3, hi159_3⟩ := at_T39 HR0.out a1 p159 q159
 cases e159
 have HR159_3 := Aside0.mk hi159_3
 have HC159_3 := Aside0.mk hl159_3
 clear hi159_3 hl159_3
 replace p159 := eq_true p159
 replace q159 := eq_true q159
 go_enter Tryz.func11, Tryz.ntmps11
 go_wp2_with (first | ((with_reducible refine gate_dst (N := 6) rfl ?_); refine box_event ?hg (N := 6) ?hd (cs := #[.int .i64 0, .string (⟨#[]⟩ : ByteArray), .string (⟨#[]⟩ : ByteArray), .slice none 0 0]) (t := 39) ?hr ?_; (case hd => rfl); (case hg => rfl); (case hr => first | (go_simp; done) | (go_simp; rfl)); intro gb160 hg w12 hbox hb; have n0_ := Aside0.mk (below_step aB hb); have n1_ := Aside0.mk (hbox); have n2_ := Aside0.mk ((by rw [hg]; exact (below_size aB) : w.heap.size ≤ gb160)); have n3_ := Aside0.mk ((by rw [hg]; exact (below_size aB) : w.heap.size ≤ gb160)); clear HB; have HB := n0_; have BK160 := n1_; have GW160 := n2_; have GE160 := n3_; clear n0_ n1_ n2_ n3_; clear hb hbox hg; have hcz13_0 : w12.cell? ⟨gb160, 0, none⟩ = some (.int .i64 0) := (blk_cell BK160.out 0).trans rfl; have hcz13_1 : w12.cell? ⟨gb160, 1, none⟩ = some (.string (⟨#[]⟩ : ByteArray)) := (blk_cell BK160.out 1).trans rfl; have hcz13_2 : w12.cell? ⟨gb160, 2, none⟩ = some (.string (⟨#[]⟩ : ByteArray)) := (blk_cell BK160.out 2).trans rfl; have hcz13_3 : w12.cell? ⟨gb160, 3, none⟩ = some (.slice none 0 0) := (blk_cell BK160.out 3).trans rfl; have hfz13_0 := blk_frozen BK160.out 0; have hfz13_1 := blk_frozen BK160.out 1; have hfz13_2 := blk_frozen BK160.out 2; have hfz13_3 := blk_frozen BK160.out 3) | ((with_reducible refine gate_store (t := 39) (p := 6) rfl ?_); (try (rw [drewN_self w12]; generalize hq_ : World.drewN w12 _ = w12; have n0_ := Aside0.mk (blk_at hq_ BK160.out); have n1_ := Aside0.mk (below_at hq_ HB.out); clear hq_ BK160 HB; have BK160 := n0_; have HB := n1_; clear n0_ n1_)); refine store_event (t := 39) (p := 6) (v := ?vo_w14) (w1 := ((((w12.setCell ⟨gb160, 0, none⟩ (.int .i64 ((rd_T39 l0 a1).f0))).setCell ⟨gb160, 1, none⟩ (.string ((rd_T39 l0 a1).f1))).setCell ⟨gb160, 2, none⟩ (.string ((rd_T39 l0 a1).f2))).setCell ⟨gb160, 3, none⟩ (.slice A159_3 ((rd_T39 l0 a1).f3).length c159_3))) ?hg ?ho ?hn ?hr ?_; (case ho => rfl); (case hg => rfl); (case hn => rfl); (case hr => first | (go_simp; done) | (go_simp; rfl)); intro w14 hw; have n0_ : Aside0 (w14.heap[gb160]? = some (.cells #[.int .i64 ((rd_T39 l0 a1).f0), .string ((rd_T39 l0 a1).f1), .string ((rd_T39 l0 a1).f2), .slice A159_3 ((rd_T39 l0 a1).f3).length c159_3] 39 (0, 0))) := ⟨(by rw [hw]; exact (by (with_reducible repeat (first | apply d1 | apply d2 | apply d3)); refine blk_put (cs := #[.int .i64 ((rd_T39 l0 a1).f0), .string ((rd_T39 l0 a1).f1), .string ((rd_T39 l0 a1).f2), .slice none 0 0]) ?_ 3 _ rfl; (with_reducible repeat (first | apply d1 | apply d2 | apply d3)); refine blk_put (cs := #[.int .i64 ((rd_T39 l0 a1).f0), .string ((rd_T39 l0 a1).f1), .string (⟨#[]⟩ : ByteArray), .slice none 0 0]) ?_ 2 _ rfl; (with_reducible repeat (first | apply d1 | apply d2 | apply d3)); refine blk_put (cs := #[.int .i64 ((rd_T39 l0 a1).f0), .string (⟨#[]⟩ : ByteArray), .string (⟨#[]⟩ : ByteArray), .slice none 0 0]) ?_ 1 _ rfl; (with_reducible repeat (first | apply d1 | apply d2 | apply d3)); refine blk_put (cs := #[.int .i64 0, .string (⟨#[]⟩ : ByteArray), .string (⟨#[]⟩ : ByteArray), .slice none 0 0]) ?_ 0 _ rfl; (with_reducible repeat (first | apply d1 | apply d2 | apply d3)); exact BK160.out))⟩; have n1_ : Aside0 (Below w.heap.size w w14) := ⟨(by rw [hw]; exact aE)⟩; clear hw; clear BK160; clear HB; have BK160 := n0_; have HB := n1_; clear n0_ n1_; have hcz15_0 : w14.cell? ⟨gb160, 0, none⟩ = some (.int .i64 ((rd_T39 l0 a1).f0)) := (blk_cell BK160.out 0).trans rfl; have hcz15_1 : w14.cell? ⟨gb160, 1, none⟩ = some (.string ((rd_T39 l0 a1).f1)) := (blk_cell BK160.out 1).trans rfl; have hcz15_2 : w14.cell? ⟨gb160, 2, none⟩ = some (.string ((rd_T39 l0 a1).f2)) := (blk_cell BK160.out 2).trans rfl; have hcz15_3 : w14.cell? ⟨gb160, 3, none⟩ = some (.slice A159_3 ((rd_T39 l0 a1).f3).length c159_3) := (blk_cell BK160.out 3).trans rfl; have hfz15_0 := blk_frozen BK160.out 0; have hfz15_1 := blk_frozen BK160.out 1; have hfz15_2 := blk_frozen BK160.out 2; have hfz15_3 := blk_frozen BK160.out 3))
 repeat (go_quiet (first | ((with_reducible refine gate_dst (N := 6) rfl ?_); refine box_event ?hg (N := 6) ?hd (cs := #[.int .i64 0, .string (⟨#[]⟩ : ByteArray), .string (⟨#[]⟩ : ByteArray), .slice none 0 0]) (t := 39) ?hr ?_; (case hd => rfl); (case hg => rfl); (case hr => first | (go_simp; done) | (go_simp; rfl)); intro gb160 hg w12 hbox hb; have n0_ := Aside0.mk (below_step aB hb); have n1_ := Aside0.mk (hbox); have n2_ := Aside0.mk ((by rw [hg]; exact (below_size aB) : w.heap.size ≤ gb160)); have n3_ := Aside0.mk ((by rw [hg]; exact (below_size aB) : w.heap.size ≤ gb160)); clear HB; have HB := n0_; have BK160 := n1_; have GW160 := n2_; have GE160 := n3_; clear n0_ n1_ n2_ n3_; clear hb hbox hg; have hcz13_0 : w12.cell? ⟨gb160, 0, none⟩ = some (.int .i64 0) := (blk_cell BK160.out 0).trans rfl; have hcz13_1 : w12.cell? ⟨gb160, 1, none⟩ = some (.string (⟨#[]⟩ : ByteArray)) := (blk_cell BK160.out 1).trans rfl; have hcz13_2 : w12.cell? ⟨gb160, 2, none⟩ = some (.string (⟨#[]⟩ : ByteArray)) := (blk_cell BK160.out 2).trans rfl; have hcz13_3 : w12.cell? ⟨gb160, 3, none⟩ = some (.slice none 0 0) := (blk_cell BK160.out 3).trans rfl; have hfz13_0 := blk_frozen BK160.out 0; have hfz13_1 := blk_frozen BK160.out 1; have hfz13_2 := blk_frozen BK160.out 2; have hfz13_3 := blk_frozen BK160.out 3) | ((with_reducible refine gate_store (t := 39) (p := 6) rfl ?_); (try (rw [drewN_self w12]; generalize hq_ : World.drewN w12 _ = w12; have n0_ := Aside0.mk (blk_at hq_ BK160.out); have n1_ := Aside0.mk (below_at hq_ HB.out); clear hq_ BK160 HB; have BK160 := n0_; have HB := n1_; clear n0_ n1_)); refine store_event (t := 39) (p := 6) (v := ?vo_w14) (w1 := ((((w12.setCell ⟨gb160, 0, none⟩ (.int .i64 ((rd_T39 l0 a1).f0))).setCell ⟨gb160, 1, none⟩ (.string ((rd_T39 l0 a1).f1))).setCell ⟨gb160, 2, none⟩ (.string ((rd_T39 l0 a1).f2))).setCell ⟨gb160, 3, none⟩ (.slice A159_3 ((rd_T39 l0 a1).f3).length c159_3))) ?hg ?ho ?hn ?hr ?_; (case ho => rfl); (case hg => rfl); (case hn => rfl); (case hr => first | (go_simp; done) | (go_simp; rfl)); intro w14 hw; have n0_ : Aside0 (w14.heap[gb160]? = some (.cells #[.int .i64 ((rd_T39 l0 a1).f0), .string ((rd_T39 l0 a1).f1), .string ((rd_T39 l0 a1).f2), .slice A159_3 ((rd_T39 l0 a1).f3).length c159_3] 39 (0, 0))) := ⟨(by rw [hw]; exact (by (with_reducible repeat (first | apply d1 | apply d2 | apply d3)); refine blk_put (cs := #[.int .i64 ((rd_T39 l0 a1).f0), .string ((rd_T39 l0 a1).f1), .string ((rd_T39 l0 a1).f2), .slice none 0 0]) ?_ 3 _ rfl; (with_reducible repeat (first | apply d1 | apply d2 | apply d3)); refine blk_put (cs := #[.int .i64 ((rd_T39 l0 a1).f0), .string ((rd_T39 l0 a1).f1), .string (⟨#[]⟩ : ByteArray), .slice none 0 0]) ?_ 2 _ rfl; (with_reducible repeat (first | apply d1 | apply d2 | apply d3)); refine blk_put (cs := #[.int .i64 ((rd_T39 l0 a1).f0), .string (⟨#[]⟩ : ByteArray), .string (⟨#[]⟩ : ByteArray), .slice none 0 0]) ?_ 1 _ rfl; (with_reducible repeat (first | apply d1 | apply d2 | apply d3)); refine blk_put (cs := #[.int .i64 0, .string (⟨#[]⟩ : ByteArray), .string (⟨#[]⟩ : ByteArray), .slice none 0 0]) ?_ 0 _ rfl; (with_reducible repeat (first | apply d1 | apply d2 | apply d3)); exact BK160.out))⟩; have n1_ : Aside0 (Below w.heap.size w w14) := ⟨(by rw [hw]; exact aE)⟩; clear hw; clear BK160; clear HB; have BK160 := n0_; have HB := n1_; clear n0_ n1_; have hcz15_0 : w14.cell? ⟨gb160, 0, none⟩ = some (.int .i64 ((rd_T39 l0 a1).f0)) := (blk_cell BK160.out 0).trans rfl; have hcz15_1 : w14.cell? ⟨gb160, 1, none⟩ = some (.string ((rd_T39 l0 a1).f1)) := (blk_cell BK160.out 1).trans rfl; have hcz15_2 : w14.cell? ⟨gb160, 2, none⟩ = some (.string ((rd_T39 l0 a1).f2)) := (blk_cell BK160.out 2).trans rfl; have hcz15_3 : w14.cell? ⟨gb160, 3, none⟩ = some (.slice A159_3 ((rd_T39 l0 a1).f3).length c159_3) := (blk_cell BK160.out 3).trans rfl; have hfz15_0 := blk_frozen BK160.out 0; have hfz15_1 := blk_frozen BK160.out 1; have hfz15_2 := blk_frozen BK160.out 2; have hfz15_3 := blk_frozen BK160.out 3)); try go_wp2_with (first | ((with_reducible refine gate_dst (N := 6) rfl ?_); refine box_event ?hg (N := 6) ?hd (cs := #[.int .i64 0, .string (⟨#[]⟩ : ByteArray), .string (⟨#[]⟩ : ByteArray), .slice none 0 0]) (t := 39) ?hr ?_; (case hd => rfl); (case hg => rfl); (case hr => first | (go_simp; done) | (go_simp; rfl)); intro gb160 hg w12 hbox hb; have n0_ := Aside0.mk (below_step aB hb); have n1_ := Aside0.mk (hbox); have n2_ := Aside0.mk ((by rw [hg]; exact (below_size aB) : w.heap.size ≤ gb160)); have n3_ := Aside0.mk ((by rw [hg]; exact (below_size aB) : w.heap.size ≤ gb160)); clear HB; have HB := n0_; have BK160 := n1_; have GW160 := n2_; have GE160 := n3_; clear n0_ n1_ n2_ n3_; clear hb hbox hg; have hcz13_0 : w12.cell? ⟨gb160, 0, none⟩ = some (.int .i64 0) := (blk_cell BK160.out 0).trans rfl; have hcz13_1 : w12.cell? ⟨gb160, 1, none⟩ = some (.string (⟨#[]⟩ : ByteArray)) := (blk_cell BK160.out 1).trans rfl; have hcz13_2 : w12.cell? ⟨gb160, 2, none⟩ = some (.string (⟨#[]⟩ : ByteArray)) := (blk_cell BK160.out 2).trans rfl; have hcz13_3 : w12.cell? ⟨gb160, 3, none⟩ = some (.slice none 0 0) := (blk_cell BK160.out 3).trans rfl; have hfz13_0 := blk_frozen BK160.out 0; have hfz13_1 := blk_frozen BK160.out 1; have hfz13_2 := blk_frozen BK160.out 2; have hfz13_3 := blk_frozen BK160.out 3) | ((with_reducible refine gate_store (t := 39) (p := 6) rfl ?_); (try (rw [drewN_self w12]; generalize hq_ : World.drewN w12 _ = w12; have n0_ := Aside0.mk (blk_at hq_ BK160.out); have n1_ := Aside0.mk (below_at hq_ HB.out); clear hq_ BK160 HB; have BK160 := n0_; have HB := n1_; clear n0_ n1_)); refine store_event (t := 39) (p := 6) (v := ?vo_w14) (w1 := ((((w12.setCell ⟨gb160, 0, none⟩ (.int .i64 ((rd_T39 l0 a1).f0))).setCell ⟨gb160, 1, none⟩ (.string ((rd_T39 l0 a1).f1))).setCell ⟨gb160, 2, none⟩ (.string ((rd_T39 l0 a1).f2))).setCell ⟨gb160, 3, none⟩ (.slice A159_3 ((rd_T39 l0 a1).f3).length c159_3))) ?hg ?ho ?hn ?hr ?_; (case ho => rfl); (case hg => rfl); (case hn => rfl); (case hr => first | (go_simp; done) | (go_simp; rfl)); intro w14 hw; have n0_ : Aside0 (w14.heap[gb160]? = some (.cells #[.int .i64 ((rd_T39 l0 a1).f0), .string ((rd_T39 l0 a1).f1), .string ((rd_T39 l0 a1).f2), .slice A159_3 ((rd_T39 l0 a1).f3).length c159_3] 39 (0, 0))) := ⟨(by rw [hw]; exact (by (with_reducible repeat (first | apply d1 | apply d2 | apply d3)); refine blk_put (cs := #[.int .i64 ((rd_T39 l0 a1).f0), .string ((rd_T39 l0 a1).f1), .string ((rd_T39 l0 a1).f2), .slice none 0 0]) ?_ 3 _ rfl; (with_reducible repeat (first | apply d1 | apply d2 | apply d3)); refine blk_put (cs := #[.int .i64 ((rd_T39 l0 a1).f0), .string ((rd_T39 l0 a1).f1), .string (⟨#[]⟩ : ByteArray), .slice none 0 0]) ?_ 2 _ rfl; (with_reducible repeat (first | apply d1 | apply d2 | apply d3)); refine blk_put (cs := #[.int .i64 ((rd_T39 l0 a1).f0), .string (⟨#[]⟩ : ByteArray), .string (⟨#[]⟩ : ByteArray), .slice none 0 0]) ?_ 1 _ rfl; (with_reducible repeat (first | apply d1 | apply d2 | apply d3)); refine blk_put (cs := #[.int .i64 0, .string (⟨#[]⟩ : ByteArray), .string (⟨#[]⟩ : ByteArray), .slice none 0 0]) ?_ 0 _ rfl; (with_reducible repeat (first | apply d1 | apply d2 | apply d3)); exact BK160.out))⟩; have n1_ : Aside0 (Below w.heap.size w w14) := ⟨(by rw [hw]; exact aE)⟩; clear hw; clear BK160; clear HB; have BK160 := n0_; have HB := n1_; clear n0_ n1_; have hcz15_0 : w14.cell? ⟨gb160, 0, none⟩ = some (.int .i64 ((rd_T39 l0 a1).f0)) := (blk_cell BK160.out 0).trans rfl; have hcz15_1 : w14.cell? ⟨gb160, 1, none⟩ = some (.string ((rd_T39 l0 a1).f1)) := (blk_cell BK160.out 1).trans rfl; have hcz15_2 : w14.cell? ⟨gb160, 2, none⟩ = some (.string ((rd_T39 l0 a1).f2)) := (blk_cell BK160.out 2).trans rfl; have hcz15_3 : w14.cell? ⟨gb160, 3, none⟩ = some (.slice A159_3 ((rd_T39 l0 a1).f3).length c159_3) := (blk_cell BK160.out 3).trans rfl; have hfz15_0 := blk_frozen BK160.out 0; have hfz15_1 := blk_frozen BK160.out 1; have hfz15_2 := blk_frozen BK160.out 2; have hfz15_3 := blk_frozen BK160.out 3)))
 go_loopg [7, 8] k (fun kq v7 v8 w' => ∃ (x7_1 : ByteArray) (x8_1 : Int), v7 = .string x7_1 ∧ v8 = .int .i64 x8_1 ∧ Aside0 (spec_l2Print.l0 kq l0 a1 x7_1 x8_1 ((rd_T39 l0 a1).f0) ((rd_T39 l0 a1).f1) ((rd_T39 l0 a1).f2) ((rd_T39 l0 a1).f3) = some (r1, r2)) ∧ Aside0 (kq ≤ k) ∧ Aside0 (w'.heap[gb160]? = some (.cells #[.int .i64 ((rd_T39 l0 a1).f0), .string ((rd_T39 l0 a1).f1), .string ((rd_T39 l0 a1).f2), (.slice A159_3 ((rd_T39 l0 a1).f3).length c159_3)] 39 (0, 0))) ∧ Aside0 (Below w.heap.size w w'))
 case atStart => exact ⟨((⟨#[60]⟩ : ByteArray) ++ ((rd_T39 l0 a1).f1)), (0), aR, aR, H', ⟨Nat.le_refl _⟩, ⟨aP BK160.out⟩, ⟨aE⟩⟩
 case round =>
  clear H'
  try clear c1
  try clear p1
  try clear q1
  try clear hx1
  try clear p2
  try clear c3
  try clear c3b0
  try clear c4
  try clear c4b0
  try clear c5
  try clear c5b0
  try clear c5b1
  try clear p6
  try clear c11
  try clear c11b0
  try clear c11b1
  try clear c11b2
  try clear c15
  try clear p15
  try clear q15
  try clear hx15
  try clear hcz10_0
  try clear hcz10_1
  try clear hcz10_2
  try clear hcz10_3
  try clear hcz13_0
  try clear hcz13_1
  try clear hcz13_2
  try clear hcz13_3
  try clear hcz15_0
  try clear hcz15_1
  try clear hcz15_2
  try clear hcz15_3
  try clear hcz8_0
  try clear hcz8_1
  try clear hcz8_2
  try clear hcz8_3
  try clear hfz10_0
  try clear hfz10_1
  try clear hfz10_2
  try clear hfz10_3
  try clear hfz13_0
  try clear hfz13_1
  try clear hfz13_2
  try clear hfz13_3
  try clear hfz15_0
  try clear hfz15_1
  try clear hfz15_2
  try clear hfz15_3
  try clear hfz8_0
  try clear hfz8_1
  try clear hfz8_2
  try clear hfz8_3
  try clear hx159_0
  try clear hx159_1
  try clear hx159_2
  try clear hx159_3
  try clear p159
  try clear q159
  obtain ⟨x7_1, x8_1, rfl, rfl, HA, HK1, BK160, HB⟩ := hrel
  cases gk with
  | zero => exact absurd HA.out (by simp [spec_l2Print.l0])
  | succ k1 =>
   have H := HA.out
   clear HA
   simp only [spec_l2Print.l0] at H
   by_cases c16 : x8_1 < (((rd_T39 l0 a1).f3).length : Int)
   ·rw [if_pos c16] at H
    have c16b0 : decide (x8_1 < (((rd_T39 l0 a1).f3).length : Int)) = true := decide_eq_true c16
    clear c16
    by_cases c17 : x7_1.size + 1 ≤ 9223372036854775807
    rotate_left
    ·rw [if_neg c17] at H
     exact absurd H (by simp)
    rw [if_pos c17] at H
    have c17b0 := eq_true c17
    have c17b1 : decide (x7_1.size + 1 ≤ 9223372036854775807) = true := decide_eq_true c17
    try have c17b2 : (9223372036854775807 < x7_1.size + 1) = False := eq_false (Nat.not_lt.2 c17)
    by_cases c18 : 0 ≤ x8_1
    rotate_left
    ·rw [if_neg c18] at H
     exact absurd H (by simp)
    rw [if_pos c18] at H
    have c18b0 : decide (0 ≤ x8_1) = true := decide_eq_true c18
    clear c18
    by_cases c19 : x7_1.size + 1 + ((rd_T52 ((rd_T39 l0 a1).f3) x8_1).f0).size ≤ 9223372036854775807
    rotate_left
    ·rw [if_neg c19] at H
     exact absurd H (by simp)
    rw [if_pos c19] at H
    have c19b0 := eq_true c19
    have c19b1 : decide (x7_1.size + 1 + ((rd_T52 ((rd_T39 l0 a1).f3) x8_1).f0).size ≤ 9223372036854775807) = true := decide_eq_true c19
    try have c19b2 : (9223372036854775807 < x7_1.size + 1 + ((rd_T52 ((rd_T39 l0 a1).f3) x8_1).f0).size) = False := eq_false (Nat.not_lt.2 c19)
    by_cases c20 : x7_1.size + 1 + ((rd_T52 ((rd_T39 l0 a1).f3) x8_1).f0).size + 2 ≤ 9223372036854775807
    rotate_left
    ·rw [if_neg c20] at H
     exact absurd H (by simp)
    rw [if_pos c20] at H
    have c20b0 := eq_true c20
    have c20b1 : decide (x7_1.size + 1 + ((rd_T52 ((rd_T39 l0 a1).f3) x8_1).f0).size + 2 ≤ 9223372036854775807) = true := decide_eq_true c20
    try have c20b2 : (9223372036854775807 < x7_1.size + 1 + ((rd_T52 ((rd_T39 l0 a1).f3) x8_1).f0).size + 2) = False := eq_false (Nat.not_lt.2 c20)
    replace H := Option.bind_eq_some_iff.mp H
    obtain ⟨t164, A210, H⟩ := H
    replace H : (if x7_1.size + 1 + ((rd_T52 ((rd_T39 l0 a1).f3) x8_1).f0).size + 2 + t164.size ≤ 9223372036854775807 then (if x7_1.size + 1 + ((rd_T52 ((rd_T39 l0 a1).f3) x8_1).f0).size + 2 + t164.size + 1 ≤ 9223372036854775807 then (spec_l2Print.l0 k1 l0 a1 (((((x7_1 ++ (⟨#[32]⟩ : ByteArray)) ++ ((rd_T52 ((rd_T39 l0 a1).f3) x8_1).f0)) ++ (⟨#[61, 34]⟩ : ByteArray)) ++ t164) ++ (⟨#[34]⟩ : ByteArray)) (wrap64 (x8_1 + 1)) ((rd_T39 l0 a1).f0) ((rd_T39 l0 a1).f1) ((rd_T39 l0 a1).f2) ((rd_T39 l0 a1).f3)) else (none)) else (none)) = some (r1, r2) := H
    have A21 := Aside0.mk A210
    clear A210
    by_cases c22 : x7_1.size + 1 + ((rd_T52 ((rd_T39 l0 a1).f3) x8_1).f0).size + 2 + t164.size ≤ 9223372036854775807
    rotate_left
    ·rw [if_neg c22] at H
     exact absurd H (by simp)
    rw [if_pos c22] at H
    have c22b0 := eq_true c22
    have c22b1 : decide (x7_1.size + 1 + ((rd_T52 ((rd_T39 l0 a1).f3) x8_1).f0).size + 2 + t164.size ≤ 9223372036854775807) = true := decide_eq_true c22
    try have c22b2 : (9223372036854775807 < x7_1.size + 1 + ((rd_T52 ((rd_T39 l0 a1).f3) x8_1).f0).size + 2 + t164.size) = False := eq_false (Nat.not_lt.2 c22)
    by_cases c23 : x7_1.size + 1 + ((rd_T52 ((rd_T39 l0 a1).f3) x8_1).f0).size + 2 + t164.size + 1 ≤ 9223372036854775807
    rotate_left
    ·rw [if_neg c23] at H
     exact absurd H (by simp)
    rw [if_pos c23] at H
    have c23b0 := eq_true c23
    have c23b1 : decide (x7_1.size + 1 + ((rd_T52 ((rd_T39 l0 a1).f3) x8_1).f0).size + 2 + t164.size + 1 ≤ 9223372036854775807) = true := decide_eq_true c23
    try have c23b2 : (9223372036854775807 < x7_1.size + 1 + ((rd_T52 ((rd_T39 l0 a1).f3) x8_1).f0).size + 2 + t164.size + 1) = False := eq_false (Nat.not_lt.2 c23)
    have H' := Aside0.mk H
    clear H
    have hcz24_0 : wr.cell? ⟨gb160, 0, none⟩ = some (.int .i64 ((rd_T39 l0 a1).f0)) := (blk_cell BK160.out 0).trans rfl
    have hcz24_1 : wr.cell? ⟨gb160, 1, none⟩ = some (.string ((rd_T39 l0 a1).f1)) := (blk_cell BK160.out 1).trans rfl
    have hcz24_2 : wr.cell? ⟨gb160, 2, none⟩ = some (.string ((rd_T39 l0 a1).f2)) := (blk_cell BK160.out 2).trans rfl
    have hcz24_3 : wr.cell? ⟨gb160, 3, none⟩ = some (.slice A159_3 ((rd_T39 l0 a1).f3).length c159_3) := (blk_cell BK160.out 3).trans rfl
    have hfz24_0 := blk_frozen BK160.out 0
    have hfz24_1 := blk_frozen BK160.out 1
    have hfz24_2 := blk_frozen BK160.out 2
    have hfz24_3 := blk_frozen BK160.out 3
    have p162 : 0 ≤ (x8_1 : Int) := aD
    have q162 : x8_1 < (((rd_T39 l0 a1).f3).length : Int) := aD
    obtain ⟨ad162, e162, hx162_0, hx162_1⟩ := at_T52 HR159_3.out x8_1 p162 q162
    cases e162
    replace hx162_0 := (HB.out.cell (World.block_lt_of_cell? w _ hx162_0)).trans hx162_0
    replace hx162_1 := (HB.out.cell (World.block_lt_of_cell? w _ hx162_1)).trans hx162_1
    replace p162 := eq_true p162
    replace q162 := eq_true q162
    have p163 : 0 ≤ (x8_1 : Int) := aD
    have q163 : x8_1 < (((rd_T39 l0 a1).f3).length : Int) := aD
    obtain ⟨ad163, e163, hx163_0, hx163_1⟩ := at_T52 HR159_3.out x8_1 p163 q163
    obtain rfl : ad162 = ad163 := (by injection e163)
    replace hx163_0 := (HB.out.cell (World.block_lt_of_cell? w _ hx163_0)).trans hx163_0
    replace hx163_1 := (HB.out.cell (World.block_lt_of_cell? w _ hx163_1)).trans hx163_1
    replace p163 := eq_true p163
    replace q163 := eq_true q163
    go_wp2_with (first | (go_at_call 24; (with_reducible refine (spec_l2Escape.calls k1 ((rd_T52 ((rd_T39 l0 a1).f3) x8_1).f1) true t164 _ A21.out).mono ?_); rintro e w' ⟨rfl, ⟨nd, rfl⟩⟩; (try first | exact aZ1 | exact aZ2)))
    repeat (go_quiet (first | (go_at_call 24; (with_reducible refine (spec_l2Escape.calls k1 ((rd_T52 ((rd_T39 l0 a1).f3) x8_1).f1) true t164 _ A21.out).mono ?_); rintro e w' ⟨rfl, ⟨nd, rfl⟩⟩; (try first | exact aZ1 | exact aZ2))); try go_wp2_with (first | (go_at_call 24; (with_reducible refine (spec_l2Escape.calls k1 ((rd_T52 ((rd_T39 l0 a1).f3) x8_1).f1) true t164 _ A21.out).mono ?_); rintro e w' ⟨rfl, ⟨nd, rfl⟩⟩; (try first | exact aZ1 | exact aZ2))))
    go_roundg k1
    case measure => have := HK1.out; omega
    case rel => exact ⟨(((((x7_1 ++ (⟨#[32]⟩ : ByteArray)) ++ ((rd_T52 ((rd_T39 l0 a1).f3) x8_1).f0)) ++ (⟨#[61, 34]⟩ : ByteArray)) ++ t164) ++ (⟨#[34]⟩ : ByteArray)), (wrap64 (x8_1 + 1)), aR, aR, H', ⟨by have := HK1.out; omega⟩, ⟨aP BK160.out⟩, ⟨aE⟩⟩
   rw [if_neg c16] at H
   have c16b0 : decide (x8_1 < (((rd_T39 l0 a1).f3).length : Int)) = false := decide_eq_false c16
   clear c16
   have H' := Aside0.mk H
   clear H
   have hcz25_0 : wr.cell? ⟨gb160, 0, none⟩ = some (.int .i64 ((rd_T39 l0 a1).f0)) := (blk_cell BK160.out 0).trans rfl
   have hcz25_1 : wr.cell? ⟨gb160, 1, none⟩ = some (.string ((rd_T39 l0 a1).f1)) := (blk_cell BK160.out 1).trans rfl
   have hcz25_2 : wr.cell? ⟨gb160, 2, none⟩ = some (.string ((rd_T39 l0 a1).f2)) := (blk_cell BK160.out 2).trans rfl
   have hcz25_3 : wr.cell? ⟨gb160, 3, none⟩ = some (.slice A159_3 ((rd_T39 l0 a1).f3).length c159_3) := (blk_cell BK160.out 3).trans rfl
   have hfz25_0 := blk_frozen BK160.out 0
   have hfz25_1 := blk_frozen BK160.out 1
   have hfz25_2 := blk_frozen BK160.out 2
   have hfz25_3 := blk_frozen BK160.out 3
   go_wp2
   repeat (go_quiet (fail); try go_wp2)
   go_loopg [9, 10] k1 (fun kq v9 v10 w' => ∃ (x9_2 : Int) (x10_2 : ByteArray), v9 = .int .i64 x9_2 ∧ v10 = .string x10_2 ∧ Aside0 (spec_l2Print.l1 kq l0 a1 x7_1 x9_2 x10_2 ((rd_T39 l0 a1).f0) ((rd_T39 l0 a1).f1) ((rd_T39 l0 a1).f2) ((rd_T39 l0 a1).f3) = some (r1, r2)) ∧ Aside0 (kq ≤ k1) ∧ Aside0 (w'.heap[gb160]? = some (.cells #[.int .i64 ((rd_T39 l0 a1).f0), .string ((rd_T39 l0 a1).f1), .string ((rd_T39 l0 a1).f2), (.slice A159_3 ((rd_T39 l0 a1).f3).length c159_3)] 39 (0, 0))) ∧ Aside0 (Below w.heap.size w w'))
   case atStart => exact ⟨(wrap64 (a1 + 1)), ((⟨#[]⟩ : ByteArray)), aR, aR, H', ⟨Nat.le_refl _⟩, ⟨aP BK160.out⟩, ⟨aE⟩⟩
   case round =>
    clear H'
    try clear c1
    try clear p1
    try clear q1
    try clear hx1
    try clear c2
    try clear p2
    try clear c3
    try clear c3b0
    try clear c4
    try clear c4b0
    try clear c5
    try clear c5b0
    try clear c5b1
    try clear p6
    try clear c11
    try clear c11b0
    try clear c11b1
    try clear c11b2
    try clear c15
    try clear p15
    try clear q15
    try clear hx15
    try clear c16
    try clear c16b0
    try clear p16
    try clear q16
    try clear hx16
    try clear c17
    try clear c17b0
    try clear c17b1
    try clear c17b2
    try clear c18
    try clear c18b0
    try clear c19
    try clear c19b0
    try clear c19b1
    try clear c19b2
    try clear c20
    try clear c20b0
    try clear c20b1
    try clear c20b2
    try clear c22
    try clear c22b0
    try clear c22b1
    try clear c22b2
    try clear c23
    try clear c23b0
    try clear c23b1
    try clear c23b2
    try clear hcz10_0
    try clear hcz10_1
    try clear hcz10_2
    try clear hcz10_3
    try clear hcz13_0
    try clear hcz13_1
    try clear hcz13_2
    try clear hcz13_3
    try clear hcz15_0
    try clear hcz15_1
    try clear hcz15_2
    try clear hcz15_3
    try clear hcz24_0
    try clear hcz24_1
    try clear hcz24_2
    try clear hcz24_3
    try clear hcz25_0
    try clear hcz25_1
    try clear hcz25_2
    try clear hcz25_3
    try clear hcz8_0
    try clear hcz8_1
    try clear hcz8_2
    try clear hcz8_3
    try clear hfz10_0
    try clear hfz10_1
    try clear hfz10_2
    try clear hfz10_3
    try clear hfz13_0
    try clear hfz13_1
    try clear hfz13_2
    try clear hfz13_3
    try clear hfz15_0
    try clear hfz15_1
    try clear hfz15_2
    try clear hfz15_3
    try clear hfz24_0
    try clear hfz24_1
    try clear hfz24_2
    try clear hfz24_3
    try clear hfz25_0
    try clear hfz25_1
    try clear hfz25_2
    try clear hfz25_3
    try clear hfz8_0
    try clear hfz8_1
    try clear hfz8_2
    try clear hfz8_3
    try clear hx159_0
    try clear hx159_1
    try clear hx159_2
    try clear hx159_3
    try clear hx162_0
    try clear hx162_1
    try clear hx163_0
    try clear hx163_1
    try clear p1
    try clear p15
    try clear p159
    try clear p162
    try clear p163
    try clear p2
    try clear p6
    try clear q1
    try clear q15
    try clear q159
    try clear q162
    try clear q163
    obtain ⟨x9_2, x10_2, rfl, rfl, HA, HK2, BK160, HB⟩ := hrel
    cases gk with
    | zero => exact absurd HA.out (by simp [spec_l2Print.l1])
    | succ k2 =>
     have H := HA.out
     clear HA
     simp only [spec_l2Print.l1] at H
     by_cases c26 : x9_2 < (l0.length : Int)
     rotate_left
     ·rw [if_neg c26] at H
      have c26b0 : decide (x9_2 < (l0.length : Int)) = false := decide_eq_false c26
      clear c26
      by_cases c40 : x9_2 = (wrap64 (a1 + 1))
      ·rw [if_pos c40] at H
       have c40b0 : (x9_2 == (wrap64 (a1 + 1))) = true := beq_iff_eq.mpr c40
       have c40b1 : (x9_2 != (wrap64 (a1 + 1))) = false := bne_eq_false_iff_eq.mpr c40
       clear c40
       by_cases c41 : x7_1.size + 2 ≤ 9223372036854775807
       rotate_left
       ·rw [if_neg c41] at H
        exact absurd H (by simp)
       rw [if_pos c41] at H
       have c41b0 := eq_true c41
       have c41b1 : decide (x7_1.size + 2 ≤ 9223372036854775807) = true := decide_eq_true c41
       try have c41b2 : (9223372036854775807 < x7_1.size + 2) = False := eq_false (Nat.not_lt.2 c41)
       simp only [Option.some.injEq, Prod.mk.injEq] at H
       obtain ⟨rfl, rfl⟩ := H
       go_wp2
       repeat (go_quiet (fail); try go_wp2)
       go_ret2
       exact ⟨by first | rfl | (simp only [aX1, aX2]; rfl) | (simp [*] <;> rfl), aE⟩
      rw [if_neg c40] at H
      have c40b0 : (x9_2 == (wrap64 (a1 + 1))) = false := beq_eq_false_iff_ne.mpr c40
      have c40b1 : (x9_2 != (wrap64 (a1 + 1))) = true := bne_iff_ne.mpr c40
      by_cases c42 : x7_1.size + 1 ≤ 9223372036854775807
      rotate_left
      ·rw [if_neg c42] at H
       exact absurd H (by simp)
      rw [if_pos c42] at H
      have c42b0 := eq_true c42
      have c42b1 : decide (x7_1.size + 1 ≤ 9223372036854775807) = true := decide_eq_true c42
      try have c42b2 : (9223372036854775807 < x7_1.size + 1) = False := eq_false (Nat.not_lt.2 c42)
      by_cases c43 : x7_1.size + 1 + x10_2.size ≤ 9223372036854775807
      rotate_left
      ·rw [if_neg c43] at H
       exact absurd H (by simp)
      rw [if_pos c43] at H
      have c43b0 := eq_true c43
      have c43b1 : decide (x7_1.size + 1 + x10_2.size ≤ 9223372036854775807) = true := decide_eq_true c43
      try have c43b2 : (9223372036854775807 < x7_1.size + 1 + x10_2.size) = False := eq_false (Nat.not_lt.2 c43)
      by_cases c44 : x7_1.size + 1 + x10_2.size + 2 ≤ 9223372036854775807
      rotate_left
      ·rw [if_neg c44] at H
       exact absurd H (by simp)
      rw [if_pos c44] at H
      have c44b0 := eq_true c44
      have c44b1 : decide (x7_1.size + 1 + x10_2.size + 2 ≤ 9223372036854775807) = true := decide_eq_true c44
      try have c44b2 : (9223372036854775807 < x7_1.size + 1 + x10_2.size + 2) = False := eq_false (Nat.not_lt.2 c44)
      by_cases c45 : x7_1.size + 1 + x10_2.size + 2 + ((rd_T39 l0 a1).f1).size ≤ 9223372036854775807
      rotate_left
      ·rw [if_neg c45] at H
       exact absurd H (by simp)
      rw [if_pos c45] at H
      have c45b0 := eq_true c45
      have c45b1 : decide (x7_1.size + 1 + x10_2.size + 2 + ((rd_T39 l0 a1).f1).size ≤ 9223372036854775807) = true := decide_eq_true c45
      try have c45b2 : (9223372036854775807 < x7_1.size + 1 + x10_2.size + 2 + ((rd_T39 l0 a1).f1).size) = False := eq_false (Nat.not_lt.2 c45)
      by_cases c46 : x7_1.size + 1 + x10_2.size + 2 + ((rd_T39 l0 a1).f1).size + 1 ≤ 9223372036854775807
      rotate_left
      ·rw [if_neg c46] at H
       exact absurd H (by simp)
      rw [if_pos c46] at H
      have c46b0 := eq_true c46
      have c46b1 : decide (x7_1.size + 1 + x10_2.size + 2 + ((rd_T39 l0 a1).f1).size + 1 ≤ 9223372036854775807) = true := decide_eq_true c46
      try have c46b2 : (9223372036854775807 < x7_1.size + 1 + x10_2.size + 2 + ((rd_T39 l0 a1).f1).size + 1) = False := eq_false (Nat.not_lt.2 c46)
      simp only [Option.some.injEq, Prod.mk.injEq] at H
      obtain ⟨rfl, rfl⟩ := H
      have hcz47_0 : wr.cell? ⟨gb160, 0, none⟩ = some (.int .i64 ((rd_T39 l0 a1).f0)) := (blk_cell BK160.out 0).trans rfl
      have hcz47_1 : wr.cell? ⟨gb160, 1, none⟩ = some (.string ((rd_T39 l0 a1).f1)) := (blk_cell BK160.out 1).trans rfl
      have hcz47_2 : wr.cell? ⟨gb160, 2, none⟩ = some (.string ((rd_T39 l0 a1).f2)) := (blk_cell BK160.out 2).trans rfl
      have hcz47_3 : wr.cell? ⟨gb160, 3, none⟩ = some (.slice A159_3 ((rd_T39 l0 a1).f3).length c159_3) := (blk_cell BK160.out 3).trans rfl
      have hfz47_0 := blk_frozen BK160.out 0
      have hfz47_1 := blk_frozen BK160.out 1
      have hfz47_2 := blk_frozen BK160.out 2
      have hfz47_3 := blk_frozen BK160.out 3
      go_wp2
      repeat (go_quiet (fail); try go_wp2)
      go_ret2
      exact ⟨by first | rfl | (simp only [aX1, aX2]; rfl) | (simp [*] <;> rfl), aE⟩
     rw [if_pos c26] at H
     have c26b0 : decide (x9_2 < (l0.length : Int)) = true := decide_eq_true c26
     clear c26
     by_cases c27 : 0 ≤ x9_2
     rotate_left
     ·rw [if_neg c27] at H
      exact absurd H (by simp)
     rw [if_pos c27] at H
     have c27b0 : decide (0 ≤ x9_2) = true := decide_eq_true c27
     clear c27
     by_cases c28 : ((rd_T39 l0 x9_2).f0) = a1
     ·rw [if_pos c28] at H
      have c28b0 : (((rd_T39 l0 x9_2).f0) == a1) = true := beq_iff_eq.mpr c28
      have c28b1 : (((rd_T39 l0 x9_2).f0) != a1) = false := bne_eq_false_iff_eq.mpr c28
      clear c28
      replace H := Option.bind_eq_some_iff.mp H
      obtain ⟨⟨t166, t167⟩, A290, H⟩ := H
      replace H : (if x10_2.size + t166.size ≤ 9223372036854775807 then (spec_l2Print.l1 k2 l0 a1 x7_1 t167 (x10_2 ++ t166) ((rd_T39 l0 a1).f0) ((rd_T39 l0 a1).f1) ((rd_T39 l0 a1).f2) ((rd_T39 l0 a1).f3)) else (none)) = some (r1, r2) := H
      have A29 := Aside0.mk A290
      clear A290
      by_cases c30 : x10_2.size + t166.size ≤ 9223372036854775807
      rotate_left
      ·rw [if_neg c30] at H
       exact absurd H (by simp)
      rw [if_pos c30] at H
      have c30b0 := eq_true c30
      have c30b1 : decide (x10_2.size + t166.size ≤ 9223372036854775807) = true := decide_eq_true c30
      try have c30b2 : (9223372036854775807 < x10_2.size + t166.size) = False := eq_false (Nat.not_lt.2 c30)
      have H' := Aside0.mk H
      clear H
      have p165 : 0 ≤ (x9_2 : Int) := aD
      have q165 : x9_2 < (l0.length : Int) := aD
      obtain ⟨ad165, A165_3, c165_3, e165, hx165_0, hx165_1, hx165_2, hx165_3, hl165_3, hi165_3⟩ := at_T39 HR0.out x9_2 p165 q165
      obtain rfl : ad159 = ad165 := (by injection e165)
      replace hx165_0 := (HB.out.cell (World.block_lt_of_cell? w _ hx165_0)).trans hx165_0
      replace hx165_1 := (HB.out.cell (World.block_lt_of_cell? w _ hx165_1)).trans hx165_1
      replace hx165_2 := (HB.out.cell (World.block_lt_of_cell? w _ hx165_2)).trans hx165_2
      replace hx165_3 := (HB.out.cell (World.block_lt_of_cell? w _ hx165_3)).trans hx165_3
      have HR165_3 := Aside0.mk hi165_3
      have HC165_3 := Aside0.mk hl165_3
      clear hi165_3 hl165_3
      replace p165 := eq_true p165
      replace q165 := eq_true q165
      go_wp2_with (first | (go_at_call 11; (with_reducible refine (ih k2 (by have := HK1.out; have := HK2.out; omega) _ _ l0 x9_2 t166 t167 _ ?side1 ?side2 A29.out).mono ?_); (case side1 => repeat (first | exact (Kd.C_below HR0.out HB.out) | (with_reducible refine Kd.C_alloc ?_ _) | (with_reducible refine Kd.C_drewN ?_ _) | (with_reducible refine Kd.C_drew ?_))); (case side2 => exact HC0.out); rintro e w31 ⟨rfl, hb⟩; have n0_ := Aside0.mk (blk_below (g := gb160) (o := .cells #[.int .i64 ((rd_T39 l0 a1).f0), .string ((rd_T39 l0 a1).f1), .string ((rd_T39 l0 a1).f2), .slice A159_3 ((rd_T39 l0 a1).f3).length c159_3] 39 (0, 0)) (aP BK160.out) hb); have n1_ := Aside0.mk (below_step aE hb); clear BK160; clear HB; have BK160 := n0_; have HB := n1_; clear n0_ n1_; (try clear hb); (try clear hb2); (try clear hk); (try clear hi)))
      repeat (go_quiet (first | (go_at_call 11; (with_reducible refine (ih k2 (by have := HK1.out; have := HK2.out; omega) _ _ l0 x9_2 t166 t167 _ ?side1 ?side2 A29.out).mono ?_); (case side1 => repeat (first | exact (Kd.C_below HR0.out HB.out) | (with_reducible refine Kd.C_alloc ?_ _) | (with_reducible refine Kd.C_drewN ?_ _) | (with_reducible refine Kd.C_drew ?_))); (case side2 => exact HC0.out); rintro e w31 ⟨rfl, hb⟩; have n0_ := Aside0.mk (blk_below (g := gb160) (o := .cells #[.int .i64 ((rd_T39 l0 a1).f0), .string ((rd_T39 l0 a1).f1), .string ((rd_T39 l0 a1).f2), .slice A159_3 ((rd_T39 l0 a1).f3).length c159_3] 39 (0, 0)) (aP BK160.out) hb); have n1_ := Aside0.mk (below_step aE hb); clear BK160; clear HB; have BK160 := n0_; have HB := n1_; clear n0_ n1_; (try clear hb); (try clear hb2); (try clear hk); (try clear hi))); try go_wp2_with (first | (go_at_call 11; (with_reducible refine (ih k2 (by have := HK1.out; have := HK2.out; omega) _ _ l0 x9_2 t166 t167 _ ?side1 ?side2 A29.out).mono ?_); (case side1 => repeat (first | exact (Kd.C_below HR0.out HB.out) | (with_reducible refine Kd.C_alloc ?_ _) | (with_reducible refine Kd.C_drewN ?_ _) | (with_reducible refine Kd.C_drew ?_))); (case side2 => exact HC0.out); rintro e w31 ⟨rfl, hb⟩; have n0_ := Aside0.mk (blk_below (g := gb160) (o := .cells #[.int .i64 ((rd_T39 l0 a1).f0), .string ((rd_T39 l0 a1).f1), .string ((rd_T39 l0 a1).f2), .slice A159_3 ((rd_T39 l0 a1).f3).length c159_3] 39 (0, 0)) (aP BK160.out) hb); have n1_ := Aside0.mk (below_step aE hb); clear BK160; clear HB; have BK160 := n0_; have HB := n1_; clear n0_ n1_; (try clear hb); (try clear hb2); (try clear hk); (try clear hi))))
      go_roundg k2
      case measure => have := HK1.out; have := HK2.out; omega
      case rel => exact ⟨(t167), (x10_2 ++ t166), aR, aR, H', ⟨by have := HK1.out; have := HK2.out; omega⟩, ⟨aP BK160.out⟩, ⟨aE⟩⟩
     rw [if_neg c28] at H
     have c28b0 : (((rd_T39 l0 x9_2).f0) == a1) = false := beq_eq_false_iff_ne.mpr c28
     have c28b1 : (((rd_T39 l0 x9_2).f0) != a1) = true := bne_iff_ne.mpr c28
     by_cases c32 : x9_2 = (wrap64 (a1 + 1))
     ·rw [if_pos c32] at H
      have c32b0 : (x9_2 == (wrap64 (a1 + 1))) = true := beq_iff_eq.mpr c32
      have c32b1 : (x9_2 != (wrap64 (a1 + 1))) = false := bne_eq_false_iff_eq.mpr c32
      clear c32
      by_cases c33 : x7_1.size + 2 ≤ 9223372036854775807
      rotate_left
      ·rw [if_neg c33] at H
       exact absurd H (by simp)
      rw [if_pos c33] at H
      have c33b0 := eq_true c33
      have c33b1 : decide (x7_1.size + 2 ≤ 9223372036854775807) = true := decide_eq_true c33
      try have c33b2 : (9223372036854775807 < x7_1.size + 2) = False := eq_false (Nat.not_lt.2 c33)
      simp only [Option.some.injEq, Prod.mk.injEq] at H
      obtain ⟨rfl, rfl⟩ := H
      have p165 : 0 ≤ (x9_2 : Int) := aD
      have q165 : x9_2 < (l0.length : Int) := aD
      obtain ⟨ad165, A165_3, c165_3, e165, hx165_0, hx165_1, hx165_2, hx165_3, hl165_3, hi165_3⟩ := at_T39 HR0.out x9_2 p165 q165
      obtain rfl : ad159 = ad165 := (by injection e165)
      replace hx165_0 := (HB.out.cell (World.block_lt_of_cell? w _ hx165_0)).trans hx165_0
      replace hx165_1 := (HB.out.cell (World.block_lt_of_cell? w _ hx165_1)).trans hx165_1
      replace hx165_2 := (HB.out.cell (World.block_lt_of_cell? w _ hx165_2)).trans hx165_2
      replace hx165_3 := (HB.out.cell (World.block_lt_of_cell? w _ hx165_3)).trans hx165_3
      have HR165_3 := Aside0.mk hi165_3
      have HC165_3 := Aside0.mk hl165_3
      clear hi165_3 hl165_3
      replace p165 := eq_true p165
      replace q165 := eq_true q165
      go_wp2
      repeat (go_quiet (fail); try go_wp2)
      go_ret2
      exact ⟨by first | rfl | (simp only [aX1, aX2]; rfl) | (simp [*] <;> rfl), aE⟩
     rw [if_neg c32] at H
     have c32b0 : (x9_2 == (wrap64 (a1 + 1))) = false := beq_eq_false_iff_ne.mpr c32
     have c32b1 : (x9_2 != (wrap64 (a1 + 1))) = true := bne_iff_ne.mpr c32
     by_cases c34 : x7_1.size + 1 ≤ 9223372036854775807
     rotate_left
     ·rw [if_neg c34] at H
      exact absurd H (by simp)
     rw [if_pos c34] at H
     have c34b0 := eq_true c34
     have c34b1 : decide (x7_1.size + 1 ≤ 9223372036854775807) = true := decide_eq_true c34
     try have c34b2 : (9223372036854775807 < x7_1.size + 1) = False := eq_false (Nat.not_lt.2 c34)
     by_cases c35 : x7_1.size + 1 + x10_2.size ≤ 9223372036854775807
     rotate_left
     ·rw [if_neg c35] at H
      exact absurd H (by simp)
     rw [if_pos c35] at H
     have c35b0 := eq_true c35
     have c35b1 : decide (x7_1.size + 1 + x10_2.size ≤ 9223372036854775807) = true := decide_eq_true c35
     try have c35b2 : (9223372036854775807 < x7_1.size + 1 + x10_2.size) = False := eq_false (Nat.not_lt.2 c35)
     by_cases c36 : x7_1.size + 1 + x10_2.size + 2 ≤ 9223372036854775807
     rotate_left
     ·rw [if_neg c36] at H
      exact absurd H (by simp)
     rw [if_pos c36] at H
     have c36b0 := eq_true c36
     have c36b1 : decide (x7_1.size + 1 + x10_2.size + 2 ≤ 9223372036854775807) = true := decide_eq_true c36
     try have c36b2 : (9223372036854775807 < x7_1.size + 1 + x10_2.size + 2) = False := eq_false (Nat.not_lt.2 c36)
     by_cases c37 : x7_1.size + 1 + x10_2.size + 2 + ((rd_T39 l0 a1).f1).size ≤ 9223372036854775807
     rotate_left
     ·rw [if_neg c37] at H
      exact absurd H (by simp)
     rw [if_pos c37] at H
     have c37b0 := eq_true c37
     have c37b1 : decide (x7_1.size + 1 + x10_2.size + 2 + ((rd_T39 l0 a1).f1).size ≤ 9223372036854775807) = true := decide_eq_true c37
     try have c37b2 : (9223372036854775807 < x7_1.size + 1 + x10_2.size + 2 + ((rd_T39 l0 a1).f1).size) = False := eq_false (Nat.not_lt.2 c37)
     by_cases c38 : x7_1.size + 1 + x10_2.size + 2 + ((rd_T39 l0 a1).f1).size + 1 ≤ 9223372036854775807
     rotate_left
     ·rw [if_neg c38] at H
      exact absurd H (by simp)
     rw [if_pos c38] at H
     have c38b0 := eq_true c38
     have c38b1 : decide (x7_1.size + 1 + x10_2.size + 2 + ((rd_T39 l0 a1).f1).size + 1 ≤ 9223372036854775807) = true := decide_eq_true c38
     try have c38b2 : (9223372036854775807 < x7_1.size + 1 + x10_2.size + 2 + ((rd_T39 l0 a1).f1).size + 1) = False := eq_false (Nat.not_lt.2 c38)
     simp only [Option.some.injEq, Prod.mk.injEq] at H
     obtain ⟨rfl, rfl⟩ := H
     have p165 : 0 ≤ (x9_2 : Int) := aD
     have q165 : x9_2 < (l0.length : Int) := aD
     obtain ⟨ad165, A165_3, c165_3, e165, hx165_0, hx165_1, hx165_2, hx165_3, hl165_3, hi165_3⟩ := at_T39 HR0.out x9_2 p165 q165
     obtain rfl : ad159 = ad165 := (by injection e165)
     replace hx165_0 := (HB.out.cell (World.block_lt_of_cell? w _ hx165_0)).trans hx165_0
     replace hx165_1 := (HB.out.cell (World.block_lt_of_cell? w _ hx165_1)).trans hx165_1
     replace hx165_2 := (HB.out.cell (World.block_lt_of_cell? w _ hx165_2)).trans hx165_2
     replace hx165_3 := (HB.out.cell (World.block_lt_of_cell? w _ hx165_3)).trans hx165_3
     have HR165_3 := Aside0.mk hi165_3
     have HC165_3 := Aside0.mk hl165_3
     clear hi165_3 hl165_3
     replace p165 := eq_true p165
     replace q165 := eq_true q165
     have hcz39_0 : wr.cell? ⟨gb160, 0, none⟩ = some (.int .i64 ((rd_T39 l0 a1).f0)) := (blk_cell BK160.out 0).trans rfl
     have hcz39_1 : wr.cell? ⟨gb160, 1, none⟩ = some (.string ((rd_T39 l0 a1).f1)) := (blk_cell BK160.out 1).trans rfl
     have hcz39_2 : wr.cell? ⟨gb160, 2, none⟩ = some (.string ((rd_T39 l0 a1).f2)) := (blk_cell BK160.out 2).trans rfl
     have hcz39_3 : wr.cell? ⟨gb160, 3, none⟩ = some (.slice A159_3 ((rd_T39 l0 a1).f3).length c159_3) := (blk_cell BK160.out 3).trans rfl
     have hfz39_0 := blk_frozen BK160.out 0
     have hfz39_1 := blk_frozen BK160.out 1
     have hfz39_2 := blk_frozen BK160.out 2
     have hfz39_3 := blk_frozen BK160.out 3
     go_wp2
     repeat (go_quiet (fail); try go_wp2)
     go_ret2
     exact ⟨by first | rfl | (simp only [aX1, aX2]; rfl) | (simp [*] <;> rfl), aE⟩
def spec_PrintDoc.f (k : Nat) (l0 : List (S39)) : Option (ByteArray × Bool) := (spec_DocOk.f k l0).bind fun t168 => (if t168 = true then ((spec_l2Print.f k l0 0).bind fun bt169 => (some (bt169.1, true))) else (some ((⟨#[]⟩ : ByteArray), false)))
set_option maxHeartbeats 8000000 in
set_option maxRecDepth 100000 in
theorem spec_PrintDoc.calls (k : Nat) (A0 : Option Addr) (c0 : Nat) (l0 : List (S39)) (r1 : ByteArray) (r2 : Bool) (w : World) (hr0 : Kd.C k39 w A0 l0.length l0) (hc0 : l0.length ≤ c0) (h : spec_PrintDoc.f k l0 = some (r1, r2)) :
  Calls Tryz.prog 5 #[.slice A0 l0.length c0] w fun e w' => e = .returned (.tuple #[.string r1, .bool r2]) ∧ Below w.heap.size w w' := by
 have HR0 := Aside0.mk hr0
 have HC0 := Aside0.mk hc0
 clear hr0 hc0
 have HB := Aside0.mk (Below.refl w.heap.size w)
 have H : ((spec_DocOk.f k l0).bind fun t168 => (if t168 = true then ((spec_l2Print.f k l0 0).bind fun bt169 => (some (bt169.1, true))) else (some ((⟨#[]⟩ : ByteArray), false)))) = some (r1, r2) := h
 clear h
 replace H := Option.bind_eq_some_iff.mp H
 obtain ⟨t168, A20, H⟩ := H
 replace H : (if t168 = true then ((spec_l2Print.f k l0 0).bind fun bt169 => (some (bt169.1, true))) else (some ((⟨#[]⟩ : ByteArray), false))) = some (r1, r2) := H
 have A2 := Aside0.mk A20
 clear A20
 by_cases c3 : t168 = true
 rotate_left
 ·replace c3 := Bool.eq_false_iff.mpr c3
  subst c3
  have H1 : (some ((⟨#[]⟩ : ByteArray), false)) = some (r1, r2) := by rw [if_neg (show ¬ (false = true) by decide)] at H; exact H
  clear H
  have H := H1
  clear H1
  simp only [Option.some.injEq, Prod.mk.injEq] at H
  obtain ⟨rfl, rfl⟩ := H
  go_enter Tryz.func5, Tryz.ntmps5
  go_wp2_with (first | ((with_reducible refine gate_callee (f := 10) rfl ?_); refine goesL_ (some 7) rfl rfl Tryz.func10 (by kernel_rfl) rfl #[.slice A0 l0.length c0] rfl aG ?_; (with_reducible refine (spec_DocOk.calls k _ _ l0 false _ ?side1 ?side2 A2.out).mono ?_); (case side1 => repeat (first | exact HR0.out | (with_reducible refine Kd.C_alloc ?_ _) | (with_reducible refine Kd.C_drewN ?_ _) | (with_reducible refine Kd.C_drew ?_))); (case side2 => exact HC0.out); rintro e w7 ⟨rfl, hb⟩; refine ⟨_, rfl, ?_⟩; have n0_ := Aside0.mk (below_step aB hb); clear HB; have HB := n0_; clear n0_; (try clear hb); (try clear hb2); (try clear hk); (try clear hi)))
  go_ret2
  exact ⟨aS, aB⟩
 subst c3
 have H1 : ((spec_l2Print.f k l0 0).bind fun bt169 => (some (bt169.1, true))) = some (r1, r2) := by rw [if_pos rfl] at H; exact H
 clear H
 have H := H1
 clear H1
 replace H := Option.bind_eq_some_iff.mp H
 obtain ⟨⟨t169, t170⟩, A40, H⟩ := H
 replace H : (some (t169, true)) = some (r1, r2) := H
 have A4 := Aside0.mk A40
 clear A40
 simp only [Option.some.injEq, Prod.mk.injEq] at H
 obtain ⟨rfl, rfl⟩ := H
 go_enter Tryz.func5, Tryz.ntmps5
 go_wp2_with (first | ((with_reducible refine gate_callee (f := 10) rfl ?_); refine goesL_ (some 7) rfl rfl Tryz.func10 (by kernel_rfl) rfl #[.slice A0 l0.length c0] rfl aG ?_; (with_reducible refine (spec_DocOk.calls k _ _ l0 true _ ?side1 ?side2 A2.out).mono ?_); (case side1 => repeat (first | exact HR0.out | (with_reducible refine Kd.C_alloc ?_ _) | (with_reducible refine Kd.C_drewN ?_ _) | (with_reducible refine Kd.C_drew ?_))); (case side2 => exact HC0.out); rintro e w5 ⟨rfl, hb⟩; refine ⟨_, rfl, ?_⟩; have n0_ := Aside0.mk (below_step aB hb); clear HB; have HB := n0_; clear n0_; (try clear hb); (try clear hb2); (try clear hk); (try clear hi)) | ((with_reducible refine gate_callee (f := 11) rfl ?_); refine goesL_ (some 11) rfl rfl Tryz.func11 (by kernel_rfl) rfl #[.slice A0 l0.length c0, .int .i64 0] rfl aG ?_; (with_reducible refine (spec_l2Print.calls k _ _ l0 0 t169 t170 _ ?side1 ?side2 A4.out).mono ?_); (case side1 => repeat (first | exact (Kd.C_below HR0.out HB.out) | (with_reducible refine Kd.C_alloc ?_ _) | (with_reducible refine Kd.C_drewN ?_ _) | (with_reducible refine Kd.C_drew ?_))); (case side2 => exact HC0.out); rintro e w6 ⟨rfl, hb⟩; refine ⟨_, rfl, ?_⟩; have n0_ := Aside0.mk (below_step aB hb); clear HB; have HB := n0_; clear n0_; (try clear hb); (try clear hb2); (try clear hk); (try clear hi)))
 go_ret2
 exact ⟨aS, aB⟩
def laws_toAttr.f (a0_0 : ByteArray) (a0_1 : ByteArray) : Option (ByteArray × ByteArray) := some (a0_0, a0_1)
set_option maxHeartbeats 8000000 in
set_option maxRecDepth 100000 in
theorem laws_toAttr.calls (a0_0 : ByteArray) (a0_1 : ByteArray) (r1 : ByteArray) (r2 : ByteArray) (w : World) (h : laws_toAttr.f a0_0 a0_1 = some (r1, r2)) :
  Calls Tryz.prog 36 #[.agg #[.string a0_0, .string a0_1]] w fun e w' => e = .returned (.agg #[.string r1, .string r2]) ∧ Below w.heap.size w w' := by
 have hu70 := Tryz.underlying70
 have hu52 := Tryz.underlying52
 have HB := Aside0.mk (Below.refl w.heap.size w)
 have H : (some (a0_0, a0_1)) = some (r1, r2) := h
 clear h
 simp only [Option.some.injEq, Prod.mk.injEq] at H
 obtain ⟨rfl, rfl⟩ := H
 go_enter Tryz.func36, Tryz.ntmps36
 go_wp2_with (first | ((with_reducible refine gate_dst (N := 1) rfl ?_); refine box_event ?hg (N := 1) ?hd (cs := #[.string a0_0, .string a0_1]) (t := 70) ?hr ?_; (case hd => rfl); (case hg => rfl); (case hr => first | (go_simp; done) | (go_simp; rfl)); intro gb171 hg w2 hbox hb; have n0_ := Aside0.mk (below_step aB hb); have n1_ := Aside0.mk (hbox); have n2_ := Aside0.mk ((by rw [hg]; exact (below_size aB) : w.heap.size ≤ gb171)); have n3_ := Aside0.mk ((by rw [hg]; exact (below_size aB) : w.heap.size ≤ gb171)); clear HB; have HB := n0_; have BK171 := n1_; have GW171 := n2_; have GE171 := n3_; clear n0_ n1_ n2_ n3_; clear hb hbox hg) | ((with_reducible refine gate_dst (N := 2) rfl ?_); refine box_event ?hg (N := 2) ?hd (cs := #[.string (⟨#[]⟩ : ByteArray), .string (⟨#[]⟩ : ByteArray)]) (t := 52) ?hr ?_; (case hd => rfl); (case hg => rfl); (case hr => first | (go_simp; done) | (go_simp; rfl)); intro gb172 hg w3 hbox hb; have n0_ := Aside0.mk (blk_below (g := gb171) (o := .cells #[.string a0_0, .string a0_1] 70 (0, 0)) (aP BK171.out) hb); have n1_ := Aside0.mk (below_step aE hb); have n2_ := Aside0.mk (hbox); have n3_ := Aside0.mk ((by rw [hg]; exact (below_size aE) : w.heap.size ≤ gb172)); have n4_ := Aside0.mk ((by rw [hg]; exact (below_size aE) : w.heap.size ≤ gb172)); have n5_ := Aside0.mk ((by rw [hg]; exact Nat.ne_of_lt (blk_lt (g := gb171) (o := .cells #[.string a0_0, .string a0_1] 70 (0, 0)) (aP BK171.out)) : gb171 ≠ gb172)); have n6_ := Aside0.mk ((by rw [hg]; exact Nat.ne_of_gt (blk_lt (g := gb171) (o := .cells #[.string a0_0, .string a0_1] 70 (0, 0)) (aP BK171.out)) : gb172 ≠ gb171)); clear BK171; clear HB; have BK171 := n0_; have HB := n1_; have BK172 := n2_; have GW172 := n3_; have GE172 := n4_; have NB171_172 := n5_; have NB172_171 := n6_; clear n0_ n1_ n2_ n3_ n4_ n5_ n6_; clear hb hbox hg) | ((with_reducible refine gate_dst (N := 3) rfl ?_); refine box_event ?hg (N := 3) ?hd (cs := #[.string (⟨#[]⟩ : ByteArray), .string (⟨#[]⟩ : ByteArray)]) (t := 52) ?hr ?_; (case hd => rfl); (case hg => rfl); (case hr => first | (go_simp; done) | (go_simp; rfl)); intro gb173 hg w4 hbox hb; have n0_ := Aside0.mk (blk_below (g := gb171) (o := .cells #[.string a0_0, .string a0_1] 70 (0, 0)) (aP BK171.out) hb); have n1_ := Aside0.mk (blk_below (g := gb172) (o := .cells #[.string (⟨#[]⟩ : ByteArray), .string (⟨#[]⟩ : ByteArray)] 52 (0, 0)) (aP BK172.out) hb); have n2_ := Aside0.mk (below_step aE hb); have n3_ := Aside0.mk (hbox); have n4_ := Aside0.mk ((by rw [hg]; exact (below_size aE) : w.heap.size ≤ gb173)); have n5_ := Aside0.mk ((by rw [hg]; exact (below_size aE) : w.heap.size ≤ gb173)); have n6_ := Aside0.mk ((by rw [hg]; exact Nat.ne_of_lt (blk_lt (g := gb171) (o := .cells #[.string a0_0, .string a0_1] 70 (0, 0)) (aP BK171.out)) : gb171 ≠ gb173)); have n7_ := Aside0.mk ((by rw [hg]; exact Nat.ne_of_gt (blk_lt (g := gb171) (o := .cells #[.string a0_0, .string a0_1] 70 (0, 0)) (aP BK171.out)) : gb173 ≠ gb171)); have n8_ := Aside0.mk ((by rw [hg]; exact Nat.ne_of_lt (blk_lt (g := gb172) (o := .cells #[.string (⟨#[]⟩ : ByteArray), .string (⟨#[]⟩ : ByteArray)] 52 (0, 0)) (aP BK172.out)) : gb172 ≠ gb173)); have n9_ := Aside0.mk ((by rw [hg]; exact Nat.ne_of_gt (blk_lt (g := gb172) (o := .cells #[.string (⟨#[]⟩ : ByteArray), .string (⟨#[]⟩ : ByteArray)] 52 (0, 0)) (aP BK172.out)) : gb173 ≠ gb172)); clear BK171; clear BK172; clear HB; have BK171 := n0_; have BK172 := n1_; have HB := n2_; have BK173 := n3_; have GW173 := n4_; have GE173 := n5_; have NB171_173 := n6_; have NB173_171 := n7_; have NB172_173 := n8_; have NB173_172 := n9_; clear n0_ n1_ n2_ n3_ n4_ n5_ n6_ n7_ n8_ n9_; clear hb hbox hg; have hnb5 := NB171_172.out; have hnc5 := NB172_171.out; have hnb6 := NB171_173.out; have hnc6 := NB173_171.out; have hcz7_0 : w4.cell? ⟨gb171, 0, none⟩ = some (.string a0_0) := (blk_cell BK171.out 0).trans rfl; have hcz7_1 : w4.cell? ⟨gb171, 1, none⟩ = some (.string a0_1) := (blk_cell BK171.out 1).trans rfl; have hfz7_0 := blk_frozen BK171.out 0; have hfz7_1 := blk_frozen BK171.out 1; have hnb8 := NB173_172.out; have hnc8 := NB172_173.out; have hcz9_0 : w4.cell? ⟨gb173, 0, none⟩ = some (.string (⟨#[]⟩ : ByteArray)) := (blk_cell BK173.out 0).trans rfl; have hcz9_1 : w4.cell? ⟨gb173, 1, none⟩ = some (.string (⟨#[]⟩ : ByteArray)) := (blk_cell BK173.out 1).trans rfl; have hfz9_0 := blk_frozen BK173.out 0; have hfz9_1 := blk_frozen BK173.out 1; have hcz10_0 : w4.cell? ⟨gb172, 0, none⟩ = some (.string (⟨#[]⟩ : ByteArray)) := (blk_cell BK172.out 0).trans rfl; have hcz10_1 : w4.cell? ⟨gb172, 1, none⟩ = some (.string (⟨#[]⟩ : ByteArray)) := (blk_cell BK172.out 1).trans rfl; have hfz10_0 := blk_frozen BK172.out 0; have hfz10_1 := blk_frozen BK172.out 1) | ((with_reducible refine gate_store (t := 52) (p := 2) rfl ?_); refine store_event (t := 52) (p := 2) (v := ?vo_w11) (w1 := ((((w4.setCell ⟨gb173, 0, none⟩ (.string a0_0)).setCell ⟨gb173, 1, none⟩ (.string a0_1)).setCell ⟨gb172, 0, none⟩ (.string a0_0)).setCell ⟨gb172, 1, none⟩ (.string a0_1))) ?hg ?ho ?hn ?hr ?_; (case ho => rfl); (case hg => rfl); (case hn => rfl); (case hr => first | (go_simp; done) | (go_simp; rfl)); intro w11 hw; have n0_ : Aside0 (w11.heap[gb171]? = some (.cells #[.string a0_0, .string a0_1] 70 (0, 0))) := ⟨(by rw [hw]; exact (by (with_reducible repeat (first | apply d1 | apply d2 | apply d3)); refine blk_far ?_ NB171_172.out _; (with_reducible repeat (first | apply d1 | apply d2 | apply d3)); refine blk_far ?_ NB171_172.out _; (with_reducible repeat (first | apply d1 | apply d2 | apply d3)); refine blk_far ?_ NB171_173.out _; (with_reducible repeat (first | apply d1 | apply d2 | apply d3)); refine blk_far ?_ NB171_173.out _; (with_reducible repeat (first | apply d1 | apply d2 | apply d3)); exact BK171.out))⟩; have n1_ : Aside0 (w11.heap[gb172]? = some (.cells #[.string a0_0, .string a0_1] 52 (0, 0))) := ⟨(by rw [hw]; exact (by (with_reducible repeat (first | apply d1 | apply d2 | apply d3)); refine blk_put (cs := #[.string a0_0, .string (⟨#[]⟩ : ByteArray)]) ?_ 1 _ rfl; (with_reducible repeat (first | apply d1 | apply d2 | apply d3)); refine blk_put (cs := #[.string (⟨#[]⟩ : ByteArray), .string (⟨#[]⟩ : ByteArray)]) ?_ 0 _ rfl; (with_reducible repeat (first | apply d1 | apply d2 | apply d3)); refine blk_far ?_ NB172_173.out _; (with_reducible repeat (first | apply d1 | apply d2 | apply d3)); refine blk_far ?_ NB172_173.out _; (with_reducible repeat (first | apply d1 | apply d2 | apply d3)); exact BK172.out))⟩; have n2_ : Aside0 (w11.heap[gb173]? = some (.cells #[.string a0_0, .string a0_1] 52 (0, 0))) := ⟨(by rw [hw]; exact (by (with_reducible repeat (first | apply d1 | apply d2 | apply d3)); refine blk_far ?_ NB173_172.out _; (with_reducible repeat (first | apply d1 | apply d2 | apply d3)); refine blk_far ?_ NB173_172.out _; (with_reducible repeat (first | apply d1 | apply d2 | apply d3)); refine blk_put (cs := #[.string a0_0, .string (⟨#[]⟩ : ByteArray)]) ?_ 1 _ rfl; (with_reducible repeat (first | apply d1 | apply d2 | apply d3)); refine blk_put (cs := #[.string (⟨#[]⟩ : ByteArray), .string (⟨#[]⟩ : ByteArray)]) ?_ 0 _ rfl; (with_reducible repeat (first | apply d1 | apply d2 | apply d3)); exact BK173.out))⟩; have n3_ : Aside0 (Below w.heap.size w w11) := ⟨(by rw [hw]; exact aE)⟩; clear hw; clear BK171; clear BK172; clear BK173; clear HB; have BK171 := n0_; have BK172 := n1_; have BK173 := n2_; have HB := n3_; clear n0_ n1_ n2_ n3_))
 refine bodyPost_ret (results_cell_row rfl _ _ gb172 52 #[.string a0_0, .string a0_1] (0, 0) _ rfl (aP BK172.out) Tryz.underlying52 rfl (by kernel_rfl)) rfl ?_
 exact ⟨aS, aE⟩
def laws_toAttrS.l0 : Nat → List (S70) → List (S52) → Int → Option ((List (S52)))
 | 0, _, _, _ => none
 | k + 1, x0, x3, x4 => if x4 < (x0.length : Int) then (if 0 ≤ x4 then ((laws_toAttr.f ((rd_T70 x0 x4).f0) ((rd_T70 x0 x4).f1)).bind fun bt178 => (if x4 < (x3.length : Int) then (laws_toAttrS.l0 k x0 (x3.set (x4 : Int).toNat (⟨bt178.1, bt178.2⟩ : S52)) (wrap64 (x4 + 1))) else (none))) else (none)) else (some x3)
def laws_toAttrS.f (k : Nat) (l0 : List (S70)) : Option ((List (S52))) := if 0 ≤ (l0.length : Int) then (if ((l0.length : Int) : Int).toNat ≤ 8796093022208 then (laws_toAttrS.l0 k l0 (List.replicate ((l0.length : Int) : Int).toNat z52) 0) else (none)) else (none)
set_option maxHeartbeats 8000000 in
set_option maxRecDepth 100000 in
theorem laws_toAttrS.calls (k : Nat) (A0 : Option Addr) (c0 : Nat) (l0 : List (S70)) (r : List (S52)) (w : World) (hr0 : Kd.C k70 w A0 l0.length l0) (hc0 : l0.length ≤ c0) (h : laws_toAttrS.f k l0 = some r) :
  Calls Tryz.prog 25 #[.slice A0 l0.length c0] w fun e w' => ∃ v0_ : Value, e = .returned (v0_) ∧ Kd.R k52 52 w' w.heap.size (fun _ => True) v0_ r ∧ Below w.heap.size w w' := by
 have hu70 := Tryz.underlying70
 have hu52 := Tryz.underlying52
 have HR0 := Aside0.mk hr0
 have HC0 := Aside0.mk hc0
 clear hr0 hc0
 have HB := Aside0.mk (Below.refl w.heap.size w)
 have H : (if 0 ≤ (l0.length : Int) then (if ((l0.length : Int) : Int).toNat ≤ 8796093022208 then (laws_toAttrS.l0 k l0 (List.replicate ((l0.length : Int) : Int).toNat z52) 0) else (none)) else (none)) = some r := h
 clear h
 by_cases c2 : 0 ≤ (l0.length : Int)
 rotate_left
 ·rw [if_neg c2] at H
  exact absurd H (by simp)
 rw [if_pos c2] at H
 have c2b0 := eq_true c2
 have c2b1 : decide (0 ≤ (l0.length : Int)) = true := decide_eq_true c2
 clear c2
 by_cases c3 : ((l0.length : Int) : Int).toNat ≤ 8796093022208
 rotate_left
 ·rw [if_neg c3] at H
  exact absurd H (by simp)
 rw [if_pos c3] at H
 have c3b0 := eq_true c3
 have c3b1 : decide (((l0.length : Int) : Int).toNat ≤ 8796093022208) = true := decide_eq_true c3
 clear c3
 obtain ⟨y174, hy174⟩ : ∃ y_ : List (S52), y_ = (List.replicate ((l0.length : Int) : Int).toNat z52) := ⟨_, rfl⟩
 replace H : (laws_toAttrS.l0 k l0 y174 0) = some r := by first | (rw [hy174]; with_reducible exact H) | (have H2_ := (Option.bind_some _ _).symm.trans H; rw [hy174]; with_reducible exact H2_) | (have H2_ := (Option.bind_some _ _).symm.trans H; with_reducible exact H2_) | with_reducible exact H | (rw [hy174]; exact H) | exact H
 have Ny174 := Aside0.mk hy174
 clear hy174
 have H' := Aside0.mk H
 clear H
 go_enter Tryz.func25, Tryz.ntmps25
 go_wp2_with (first | ((with_reducible refine gate_dst (N := 7) rfl ?_); refine Kd.R_make k52 _ 52 rfl (N := 7) rfl 37 _ _ rfl (l0.length : Int) rfl rfl Tryz.underlying37 (.agg #[(.string ⟨#[]⟩), (.string ⟨#[]⟩)]) 32 info52 rfl (by decide) (by omega) z52 (ok := fun _ => True) (okp := fun _ => True) (k52_mkM _ _ _ z52 ) (fun _ hk => hk) trivial (aD) (Nat.le_trans (Nat.mul_le_mul_right _ (aD : (l0.length : Int).toNat ≤ 8796093022208)) (by omega)) (Below.refl _ _) (Nat.le_refl _) ?_; intro v175 w4 ho5 hb hg_ hnew_; clear hg_ hnew_; (first | rw [← Ny174.out] at ho5 | (simp only [Int.reduceToNat] at ho5; rw [← Ny174.out] at ho5)); have n0_ := Aside0.mk (Kd.R_lower ho5 (below_size aB)); have n1_ := Aside0.mk (below_step aB hb); clear HB; have HO176 := n0_; have HB := n1_; clear n0_ n1_; clear hb ho5))
 go_loopg [4] k (fun kq v4 w' => ∃ (x3_1 : List (S52)) (x4_1 : Int), v4 = .int .i64 x4_1 ∧ Aside0 (laws_toAttrS.l0 kq l0 x3_1 x4_1 = some r) ∧ Aside0 (kq ≤ k) ∧ Aside0 (Kd.R k52 52 w' w.heap.size (fun _ => True) v175 x3_1) ∧ Aside0 (Below w.heap.size w w'))
 case atStart => exact ⟨(y174), (0), aR, H', ⟨Nat.le_refl _⟩, ⟨aP HO176.out⟩, ⟨aB⟩⟩
 case round =>
  clear H'
  try clear c2
  try clear c2b0
  try clear c2b1
  try clear p2
  try clear c3
  try clear c3b0
  try clear c3b1
  obtain ⟨x3_1, x4_1, rfl, HA, HK1, HO_3, HB⟩ := hrel
  cases gk with
  | zero => exact absurd HA.out (by simp [laws_toAttrS.l0])
  | succ k1 =>
   have H := HA.out
   clear HA
   simp only [laws_toAttrS.l0] at H
   by_cases c6 : x4_1 < (l0.length : Int)
   rotate_left
   ·rw [if_neg c6] at H
    have c6b0 : decide (x4_1 < (l0.length : Int)) = false := decide_eq_false c6
    clear c6
    obtain rfl := Option.some.inj H
    go_wp2
    go_ret
    exact ⟨_, by first | rfl | (simp [*] <;> rfl), by (with_reducible repeat (first | apply Kd.R_alloc | apply Kd.R_drewN | apply Kd.R_drew)); exact HO_3.out, aB⟩
   rw [if_pos c6] at H
   have c6b0 : decide (x4_1 < (l0.length : Int)) = true := decide_eq_true c6
   clear c6
   by_cases c7 : 0 ≤ x4_1
   rotate_left
   ·rw [if_neg c7] at H
    exact absurd H (by simp)
   rw [if_pos c7] at H
   have c7b0 : decide (0 ≤ x4_1) = true := decide_eq_true c7
   clear c7
   replace H := Option.bind_eq_some_iff.mp H
   obtain ⟨⟨t178, t179⟩, A80, H⟩ := H
   replace H : (if x4_1 < (x3_1.length : Int) then (laws_toAttrS.l0 k1 l0 (x3_1.set (x4_1 : Int).toNat (⟨t178, t179⟩ : S52)) (wrap64 (x4_1 + 1))) else (none)) = some r := H
   have A8 := Aside0.mk A80
   clear A80
   by_cases c9 : x4_1 < (x3_1.length : Int)
   rotate_left
   ·rw [if_neg c9] at H
    exact absurd H (by simp)
   rw [if_pos c9] at H
   have c9b0 : decide (x4_1 < (x3_1.length : Int)) = true := decide_eq_true c9
   clear c9
   obtain ⟨y180, hy180⟩ : ∃ y_ : List (S52), y_ = (x3_1.set (x4_1 : Int).toNat (⟨t178, t179⟩ : S52)) := ⟨_, rfl⟩
   replace H : (laws_toAttrS.l0 k1 l0 y180 (wrap64 (x4_1 + 1))) = some r := by first | (rw [hy180]; with_reducible exact H) | (have H2_ := (Option.bind_some _ _).symm.trans H; rw [hy180]; with_reducible exact H2_) | (have H2_ := (Option.bind_some _ _).symm.trans H; with_reducible exact H2_) | with_reducible exact H | (rw [hy180]; exact H) | exact H
   have Ny180 := Aside0.mk hy180
   clear hy180
   have H' := Aside0.mk H
   clear H
   have p177 : 0 ≤ (x4_1 : Int) := aD
   have q177 : x4_1 < (l0.length : Int) := aD
   obtain ⟨ad177, e177, hx177_0, hx177_1⟩ := at_T70 HR0.out x4_1 p177 q177
   cases e177
   replace hx177_0 := (HB.out.cell (World.block_lt_of_cell? w _ hx177_0)).trans hx177_0
   replace hx177_1 := (HB.out.cell (World.block_lt_of_cell? w _ hx177_1)).trans hx177_1
   replace p177 := eq_true p177
   replace q177 := eq_true q177
   go_wp2_with (first | ((with_reducible refine gate_callee (f := 36) rfl ?_); refine goesL_ (some 20) rfl rfl Tryz.func36 (by kernel_rfl) rfl #[.agg #[.string ((rd_T70 l0 x4_1).f0), .string ((rd_T70 l0 x4_1).f1)]] rfl aG ?_; (with_reducible refine (laws_toAttr.calls ((rd_T70 l0 x4_1).f0) ((rd_T70 l0 x4_1).f1) t178 t179 _ A8.out).mono ?_); rintro e w11 ⟨rfl, hb⟩; refine ⟨_, rfl, ?_⟩; have n0_ := Aside0.mk (Kd.R_below (aP HO_3.out) hb); have n1_ := Aside0.mk (below_step aB hb); clear HO_3; clear HB; have HO_3 := n0_; have HB := n1_; clear n0_ n1_; (try clear hb); (try clear hb2); (try clear hk); (try clear hi); have p10 : 0 ≤ (x4_1 : Int) := aD; have q10 : (x4_1 : Int) < ((x3_1.length : Int) : Int) := aD; obtain ⟨go10, co10, eo10, gb10, gl10, cl10, HG10⟩ := Kd.R_form HO_3.out (by omega); (first | cases eo10 | (injection eo10 with ea_ en_ ec_; (first | subst ea_ | (injection ea_ with ea_; subst ea_)); subst ec_; clear en_)); have GB10 := Aside0.mk gb10; have GG10 := Aside0.mk HG10; clear gb10 gl10 HG10; obtain ⟨ce10, hcl10, hM10, hcc10, hfr10⟩ := Kd.R_elem HO_3.out z52 (x4_1 : Int) p10 q10; obtain rfl := k52_openM hM10; have hx10_0 : w11.cell? ⟨go10, (x4_1 : Int).toNat * 2, none⟩ = some (.string ((rd_T52 x3_1 x4_1).f0)) := hcc10 0 _ rfl; have hx10_1 : w11.cell? ⟨go10, (x4_1 : Int).toNat * 2 + 1, none⟩ = some (.string ((rd_T52 x3_1 x4_1).f1)) := hcc10 1 _ rfl; have hf10_0 : w11.frozen? ⟨go10, (x4_1 : Int).toNat * 2, none⟩ = false := hfr10 0; have hf10_1 : w11.frozen? ⟨go10, (x4_1 : Int).toNat * 2 + 1, none⟩ = false := hfr10 1; clear hcl10 hcc10 hfr10 hM10; replace p10 := eq_true p10; replace q10 := eq_true q10; have HX12 := Aside0.mk (show Kd.R k52 52 w11 w.heap.size (fun _ => True) (.slice (some ⟨go10, 0, none⟩) x3_1.length co10) x3_1 from (aP HO_3.out)); obtain ⟨ce12, hcl12, hM12, hcc12, hfr12⟩ := Kd.R_elem HX12.out z52 (x4_1 : Int) (aD) (by have h_ : (x4_1 : Int) < ((x3_1.length : Int) : Int) := aD; first | exact h_ | (have e_ := (Kd.R_reads' HO_3.out).1; omega) | simpa using h_); obtain rfl := k52_openM hM12; have HP12 := Kd.R_seg HX12.out (x4_1 : Int) (aD) (by have h_ : (x4_1 : Int) < ((x3_1.length : Int) : Int) := aD; first | exact h_ | (have e_ := (Kd.R_reads' HO_3.out).1; omega) | simpa using h_) (seg := [.string t178, .string t179]) (j := 0) hcl12 hcc12 (show 2 ≤ 2 from by decide) (x' := (⟨t178, t179⟩ : S52)) (k52_mkM _ _ _ (⟨t178, t179⟩ : S52) ) (fun _ hk => hk); have hx12_0 := hcc12 0 _ rfl; (try simp only [show (k52).sz = 2 from rfl, Nat.mul_one, Nat.add_zero] at hx12_0); have hf12_0 := hfr12 0; (try simp only [show (k52).sz = 2 from rfl, Nat.mul_one, Nat.add_zero] at hf12_0); have hx12_1 := hcc12 1 _ rfl; (try simp only [show (k52).sz = 2 from rfl, Nat.mul_one, Nat.add_zero] at hx12_1); have hf12_1 := hfr12 1; (try simp only [show (k52).sz = 2 from rfl, Nat.mul_one, Nat.add_zero] at hf12_1); clear hcl12 hcc12 hfr12 hM12) | ((with_reducible refine gate_store (t := 52) (p := 21) rfl ?_); refine store_event (t := 52) (p := 21) (v := ?vo_w13) (w1 := ((w11.setCell ⟨go10, (x4_1 : Int).toNat * 2, none⟩ (.string t178)).setCell ⟨go10, (x4_1 : Int).toNat * 2 + 1, none⟩ (.string t179))) ?hg ?ho ?hn ?hr ?_; (case ho => rfl); (case hg => rfl); (case hn => rfl); (case hr => first | (go_simp; done) | (go_simp; rfl)); intro w13 hw; have hg : w11.grownBy w13 (some go10) := (by rw [hw]; exact HP12.2); have hp_ : Kd.R k52 52 w13 w.heap.size (fun _ => True) (.slice (some ⟨go10, 0, none⟩) x3_1.length co10) y180 := (by rw [hw, Ny180.out]; exact HP12.1); clear HP12; have n0_ := Aside0.mk (hp_); have n1_ := Aside0.mk ((by rw [hw]; exact below_set (below_set (HB.out) GB10.out) GB10.out : Below w.heap.size w w13)); clear HO_3; clear HB; have HO_3 := n0_; have HB := n1_; clear n0_ n1_; clear hg hw hp_))
   go_roundg k1
   case measure => have := HK1.out; omega
   case rel => exact ⟨(y180), (wrap64 (x4_1 + 1)), aR, H', ⟨by have := HK1.out; omega⟩, ⟨aP HO_3.out⟩, ⟨aB⟩⟩
end Go.Proofs.YtbhklkpjjpkblaaGreatDoor.PP
