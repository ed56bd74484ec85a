import Derived.Test.YtbhklkpjjpkblaaGreatDoorHShort
import Derived.Test.YtbhklkpjjpkblaaGreatDoorPPx0
import Derived.Test.YtbhklkpjjpkblaaGreatDoorPPx1
import Derived.Test.YtbhklkpjjpkblaaGreatDoorPPx3
import Derived.Test.YtbhklkpjjpkblaaGreatDoorPPx4
namespace Go.Proofs.YtbhklkpjjpkblaaGreatDoor.PP
open Go.RowKit Go.Proofs.YtbhklkpjjpkblaaGreatDoorW.PrintWords Go.Proofs.YtbhklkpjjpkblaaGreatDoorW.PrintLast Go.Proofs.YtbhklkpjjpkblaaGreatDoorW.PrintMore Go.Proofs.YtbhklkpjjpkblaaGreatDoorW.WordsB Go.Proofs.YtbhklkpjjpkblaaGreatDoorW.GlM Go.Proofs.YtbhklkpjjpkblaaGreatDoorW.Short
attribute [local go_sem] max2_int min2_int max_two min_two max_three min_three max_four min_four
set_option linter.unusedVariables false
set_option linter.unusedSimpArgs false
mutual
def spec_DocOk.j0 : Nat → List (S39) → Bool → Option (Bool)
 | 0, _, _ => none
 | k + 1, x0, x15 => if x15 = true then (some false) else (spec_DocOk.l0 k x0 0 0)
def spec_DocOk.l0 : Nat → List (S39) → Int → Int → Option (Bool)
 | 0, _, _, _ => none
 | k + 1, x0, x3, x4 => if x4 < (x0.length : Int) then (if 0 ≤ x4 then (spec_DocOk.l1 k x0 (wrap64 ((wrap64 (x3 + (((rd_T39 x0 x4).f1).size : Int))) + (((rd_T39 x0 x4).f2).size : Int))) x4 0 ((rd_T39 x0 x4).f0) ((rd_T39 x0 x4).f1) ((rd_T39 x0 x4).f2) ((rd_T39 x0 x4).f3)) else (none)) else (some true)
def spec_DocOk.j3 : Nat → List (S39) → Int → Int → Int → ByteArray → ByteArray → List (S52) → Option (Bool)
 | 0, _, _, _, _, _, _, _ => none
 | k + 1, x0, x3, x4, x148000, x148001, x148002, x148003 => if x3 > 2500 then (some false) else (if x4 = 0 then (if x148000 = (-1) then (if x148001.toList = ([] : List UInt8) then (some false) else (spec_DocOk.j4 k x0 x3 x4 x148000 x148001 x148002 x148003)) else (some false)) else ((spec_l1In.f x148000 0 (wrap64 (x4 - 1))).bind fun t150 => (if t150 = true then (if 0 ≤ x148000 then (if x148000 < (x0.length : Int) then (if ((rd_T39 x0 x148000).f1).toList = ([] : List UInt8) then (some false) else (spec_DocOk.j4 k x0 x3 x4 x148000 x148001 x148002 x148003)) else (none)) else (none)) else (some false))))
def spec_DocOk.j4 : Nat → List (S39) → Int → Int → Int → ByteArray → ByteArray → List (S52) → Option (Bool)
 | 0, _, _, _, _, _, _, _ => none
 | k + 1, x0, x3, x4, x148000, x148001, x148002, x148003 => if x4 > 0 then (spec_DocOk.l2 k x0 x3 x4 (wrap64 (x4 - 1)) x148000 x148001 x148002 x148003) else (spec_DocOk.j6 k x0 x3 x4 x148000 x148001 x148002 x148003)
def spec_DocOk.j6 : Nat → List (S39) → Int → Int → Int → ByteArray → ByteArray → List (S52) → Option (Bool)
 | 0, _, _, _, _, _, _, _ => none
 | k + 1, x0, x3, x4, x148000, x148001, x148002, x148003 => (spec_l2Deep.f k x0 x4).bind fun t153 => (if t153 ≥ 20 then (some false) else (if x148001.toList = ([] : List UInt8) then (if x148002.toList = ([] : List UInt8) then (spec_DocOk.j7 k x0 x3 x4 true x148000 x148001 x148002 x148003) else (if (x148003.length : Int) > 0 then (spec_DocOk.j7 k x0 x3 x4 true x148000 x148001 x148002 x148003) else ((spec_l1Text.f k x148002).bind fun t154 => (spec_DocOk.j7 k x0 x3 x4 (!t154) x148000 x148001 x148002 x148003)))) else (if x148002.toList = ([] : List UInt8) then ((spec_l1Qual.f k x148001).bind fun t157 => (if t157 = true then ((spec_l2Attrs.f k x148003).bind fun t158 => (if t158 = true then (spec_DocOk.l0 k x0 x3 (wrap64 (x4 + 1))) else (some false))) else (some false))) else (some false))))
def spec_DocOk.j7 : Nat → List (S39) → Int → Int → Bool → Int → ByteArray → ByteArray → List (S52) → Option (Bool)
 | 0, _, _, _, _, _, _, _, _ => none
 | k + 1, x0, x3, x4, x130, x148000, x148001, x148002, x148003 => if x130 = true then (some false) else (if 0 ≤ (wrap64 (x4 - 1)) then (if (wrap64 (x4 - 1)) < (x0.length : Int) then (if ((rd_T39 x0 (wrap64 (x4 - 1))).f1).toList = ([] : List UInt8) then (if ((rd_T39 x0 (wrap64 (x4 - 1))).f0) = x148000 then (some false) else (spec_DocOk.l0 k x0 x3 (wrap64 (x4 + 1)))) else (spec_DocOk.l0 k x0 x3 (wrap64 (x4 + 1)))) else (none)) else (none))
def spec_DocOk.l2 : Nat → List (S39) → Int → Int → Int → Int → ByteArray → ByteArray → List (S52) → Option (Bool)
 | 0, _, _, _, _, _, _, _, _ => none
 | k + 1, x0, x3, x4, x7, x148000, x148001, x148002, x148003 => if x7 ≥ 0 then (if x7 = x148000 then (if x7 < 0 then (some false) else (spec_DocOk.j6 k x0 x3 x4 x148000 x148001 x148002 x148003)) else (if 0 ≤ x7 then (if x7 < (x0.length : Int) then (spec_DocOk.l2 k x0 x3 x4 ((rd_T39 x0 x7).f0) x148000 x148001 x148002 x148003) else (none)) else (none))) else (if x7 < 0 then (some false) else (spec_DocOk.j6 k x0 x3 x4 x148000 x148001 x148002 x148003))
def spec_DocOk.l1 : Nat → List (S39) → Int → Int → Int → Int → ByteArray → ByteArray → List (S52) → Option (Bool)
 | 0, _, _, _, _, _, _, _, _ => none
 | k + 1, x0, x3, x4, x6, x148000, x148001, x148002, x148003 => if x6 < (x148003.length : Int) then (if x6 < 20 then (if 0 ≤ x6 then (spec_DocOk.l1 k x0 (wrap64 ((wrap64 (x3 + (((rd_T52 x148003 x6).f0).size : Int))) + (((rd_T52 x148003 x6).f1).size : Int))) x4 (wrap64 (x6 + 1)) x148000 x148001 x148002 x148003) else (none)) else (spec_DocOk.j3 k x0 x3 x4 x148000 x148001 x148002 x148003)) else (spec_DocOk.j3 k x0 x3 x4 x148000 x148001 x148002 x148003)
end
def spec_DocOk.f (k : Nat) (l0 : List (S39)) : Option (Bool) := if (l0.length : Int) < 1 then (spec_DocOk.j0 k l0 true) else (spec_DocOk.j0 k l0 (decide ((l0.length : Int) > 200)))
set_option maxHeartbeats 8000000 in
set_option maxRecDepth 100000 in
theorem spec_DocOk.calls (k : Nat) (A0 : Option Addr) (c0 : Nat) (l0 : List (S39)) (r : Bool) (w : World) (hr0 : Kd.C k39 w A0 l0.length l0) (hc0 : l0.length ≤ c0) (h : spec_DocOk.f k l0 = some r) :
  Calls Tryz.prog 10 #[.slice A0 l0.length c0] w fun e w' => e = .returned (.bool r) ∧ Below w.heap.size w w' := by
 have hu39 := Tryz.underlying39
 have HR0 := Aside0.mk hr0
 have HC0 := Aside0.mk hc0
 clear hr0 hc0
 have HB := Aside0.mk (Below.refl w.heap.size w)
 have H : (if (l0.length : Int) < 1 then (spec_DocOk.j0 k l0 true) else (spec_DocOk.j0 k l0 (decide ((l0.length : Int) > 200)))) = some r := h
 clear h
 have HC2 := Aside0.mk H
 clear H
 go_enter Tryz.func10, Tryz.ntmps10
 go_upto_region 1 with (fail)
 repeat (go_quiet (fail); go_upto_region 1 with (fail))
 go_cut [15] (fun v15 wc => ∃ (kq : Nat) (x15_1 : Bool), v15 = .bool x15_1 ∧ Aside0 (spec_DocOk.j0 kq l0 x15_1 = some r) ∧ Aside0 (kq ≤ k) ∧ Aside0 (Below w.heap.size w wc))
 case first =>
  have H := HC2.out
  clear HC2
  by_cases c3 : (l0.length : Int) < 1
  ·rw [if_pos c3] at H
   have c3b0 : decide ((l0.length : Int) < 1) = true := decide_eq_true c3
   have c3b1 : decide (l0.length < 1) = true := decide_eq_true (by omega)
   clear c3
   (first | rw [c3b0] | (simp only [i64_w, i32_w]; rw [c3b0]) | skip)
   have H' := Aside0.mk H
   clear H
   go_wp2
   repeat (go_quiet (fail); try go_wp2)
   go_meet
   case rel => exact ⟨_, (true), aR, H', ⟨by first | omega | exact Nat.le_refl _⟩, ⟨aB⟩⟩
  rw [if_neg c3] at H
  have c3b0 : decide ((l0.length : Int) < 1) = false := decide_eq_false c3
  have c3b1 : decide (l0.length < 1) = false := decide_eq_false (by omega)
  clear c3
  (first | rw [c3b0] | (simp only [i64_w, i32_w]; rw [c3b0]) | skip)
  have H' := Aside0.mk H
  clear H
  go_wp2
  repeat (go_quiet (fail); try go_wp2)
  go_meet
  case rel => exact ⟨_, (decide ((l0.length : Int) > 200)), aR, H', ⟨by first | omega | exact Nat.le_refl _⟩, ⟨aB⟩⟩
 case rest =>
  clear HC2
  try clear c1
  try clear p2
  try clear c3
  try clear c3b0
  try clear c3b1
  obtain ⟨kq, x15_1, rfl, HA, HJ1, HB⟩ := hcut
  cases kq with
  | zero => exact absurd HA.out (by simp [spec_DocOk.j0])
  | succ kj1 =>
   have H := HA.out
   clear HA
   simp only [spec_DocOk.j0] at H
   by_cases c4 : x15_1 = true
   ·subst c4
    have H1 : (some false) = some r := by rw [if_pos rfl] at H; exact H
    clear H
    have H := H1
    clear H1
    obtain rfl := Option.some.inj H
    go_wp2
    repeat (go_quiet (fail); try go_wp2)
    go_ret
    exact ⟨by first | rfl | (simp only [aX1, aX2]; rfl) | (simp [*] <;> rfl), aB⟩
   replace c4 := Bool.eq_false_iff.mpr c4
   subst c4
   have H1 : (spec_DocOk.l0 kj1 l0 0 0) = some r := by rw [if_neg (show ¬ (false = true) by decide)] at H; exact H
   clear H
   have H := H1
   clear H1
   have H' := Aside0.mk H
   clear H
   go_wp2
   repeat (go_quiet (fail); try go_wp2)
   go_loopg [3, 4] kj1 (fun kq v3 v4 w' => ∃ (x3_2 : Int) (x4_2 : Int), v3 = .int .i64 x3_2 ∧ v4 = .int .i64 x4_2 ∧ Aside0 (spec_DocOk.l0 kq l0 x3_2 x4_2 = some r) ∧ Aside0 (kq ≤ kj1) ∧ Aside0 (Below w.heap.size w w'))
   case atStart => exact ⟨(0), (0), aR, aR, H', ⟨Nat.le_refl _⟩, ⟨aB⟩⟩
   case round =>
    clear H'
    try clear c1
    try clear p2
    try clear c3
    try clear c3b0
    try clear c3b1
    try clear c4
    try clear p2
    obtain ⟨x3_2, x4_2, rfl, rfl, HA, HK2, HB⟩ := hrel
    cases gk with
    | zero => exact absurd HA.out (by simp [spec_DocOk.l0])
    | succ k2 =>
     have H := HA.out
     clear HA
     simp only [spec_DocOk.l0] at H
     by_cases c5 : x4_2 < (l0.length : Int)
     rotate_left
     ·rw [if_neg c5] at H
      have c5b0 : decide (x4_2 < (l0.length : Int)) = false := decide_eq_false c5
      clear c5
      obtain rfl := Option.some.inj H
      go_wp2
      repeat (go_quiet (fail); try go_wp2)
      go_ret
      exact ⟨by first | rfl | (simp only [aX1, aX2]; rfl) | (simp [*] <;> rfl), aB⟩
     rw [if_pos c5] at H
     have c5b0 : decide (x4_2 < (l0.length : Int)) = true := decide_eq_true c5
     clear c5
     by_cases c6 : 0 ≤ x4_2
     rotate_left
     ·rw [if_neg c6] at H
      exact absurd H (by simp)
     rw [if_pos c6] at H
     have c6b0 : decide (0 ≤ x4_2) = true := decide_eq_true c6
     clear c6
     have HC7 := Aside0.mk H
     clear H
     have p146 : 0 ≤ (x4_2 : Int) := aD
     have q146 : x4_2 < (l0.length : Int) := aD
     obtain ⟨ad146, A146_3, c146_3, e146, hx146_0, hx146_1, hx146_2, hx146_3, hl146_3, hi146_3⟩ := at_T39 HR0.out x4_2 p146 q146
     cases e146
     replace hx146_0 := (HB.out.cell (World.block_lt_of_cell? w _ hx146_0)).trans hx146_0
     replace hx146_1 := (HB.out.cell (World.block_lt_of_cell? w _ hx146_1)).trans hx146_1
     replace hx146_2 := (HB.out.cell (World.block_lt_of_cell? w _ hx146_2)).trans hx146_2
     replace hx146_3 := (HB.out.cell (World.block_lt_of_cell? w _ hx146_3)).trans hx146_3
     have HR146_3 := Aside0.mk hi146_3
     have HC146_3 := Aside0.mk hl146_3
     clear hi146_3 hl146_3
     replace p146 := eq_true p146
     replace q146 := eq_true q146
     go_upto_block 2 with (first | ((with_reducible refine gate_dst (N := 5) rfl ?_); (try (refine gate_guard (by rfl) ?_; dsimp only)); refine box_event ?hg (N := 5) ?hd (cs := #[.int .i64 0, .string (⟨#[]⟩ : ByteArray), .string (⟨#[]⟩ : ByteArray), .slice none 0 0]) (t := 39) ?hr ?_; (case hd => rfl); (case hg => rfl); (case hr => first | (go_simp; done) | (go_simp; rfl)); intro gb147 hg w8 hbox hb; have n0_ := Aside0.mk (below_step aB hb); have n1_ := Aside0.mk (hbox); have n2_ := Aside0.mk ((by rw [hg]; exact (below_size aB) : w.heap.size ≤ gb147)); have n3_ := Aside0.mk ((by rw [hg]; exact (below_size aB) : w.heap.size ≤ gb147)); clear HB; have HB := n0_; have BK147 := n1_; have GW147 := n2_; have GE147 := n3_; clear n0_ n1_ n2_ n3_; clear hb hbox hg; have hcz9_0 : w8.cell? ⟨gb147, 0, none⟩ = some (.int .i64 0) := (blk_cell BK147.out 0).trans rfl; have hcz9_1 : w8.cell? ⟨gb147, 1, none⟩ = some (.string (⟨#[]⟩ : ByteArray)) := (blk_cell BK147.out 1).trans rfl; have hcz9_2 : w8.cell? ⟨gb147, 2, none⟩ = some (.string (⟨#[]⟩ : ByteArray)) := (blk_cell BK147.out 2).trans rfl; have hcz9_3 : w8.cell? ⟨gb147, 3, none⟩ = some (.slice none 0 0) := (blk_cell BK147.out 3).trans rfl; have hfz9_0 := blk_frozen BK147.out 0; have hfz9_1 := blk_frozen BK147.out 1; have hfz9_2 := blk_frozen BK147.out 2; have hfz9_3 := blk_frozen BK147.out 3) | ((with_reducible refine gate_store (t := 39) (p := 5) rfl ?_); (try (rw [drewN_self w8]; generalize hq_ : World.drewN w8 _ = w8; have n0_ := Aside0.mk (blk_at hq_ BK147.out); have n1_ := Aside0.mk (below_at hq_ HB.out); clear hq_ BK147 HB; have BK147 := n0_; have HB := n1_; clear n0_ n1_)); refine store_event (t := 39) (p := 5) (v := ?vo_w10) (w1 := ((((w8.setCell ⟨gb147, 0, none⟩ (.int .i64 ((rd_T39 l0 x4_2).f0))).setCell ⟨gb147, 1, none⟩ (.string ((rd_T39 l0 x4_2).f1))).setCell ⟨gb147, 2, none⟩ (.string ((rd_T39 l0 x4_2).f2))).setCell ⟨gb147, 3, none⟩ (.slice A146_3 ((rd_T39 l0 x4_2).f3).length c146_3))) ?hg ?ho ?hn ?hr ?_; (case ho => rfl); (case hg => rfl); (case hn => rfl); (case hr => first | (go_simp; done) | (go_simp; rfl)); intro w10 hw; have n0_ : Aside0 (w10.heap[gb147]? = some (.cells #[.int .i64 ((rd_T39 l0 x4_2).f0), .string ((rd_T39 l0 x4_2).f1), .string ((rd_T39 l0 x4_2).f2), .slice A146_3 ((rd_T39 l0 x4_2).f3).length c146_3] 39 (0, 0))) := ⟨(by rw [hw]; exact (by (with_reducible repeat (first | apply d1 | apply d2 | apply d3)); refine blk_put (cs := #[.int .i64 ((rd_T39 l0 x4_2).f0), .string ((rd_T39 l0 x4_2).f1), .string ((rd_T39 l0 x4_2).f2), .slice none 0 0]) ?_ 3 _ rfl; (with_reducible repeat (first | apply d1 | apply d2 | apply d3)); refine blk_put (cs := #[.int .i64 ((rd_T39 l0 x4_2).f0), .string ((rd_T39 l0 x4_2).f1), .string (⟨#[]⟩ : ByteArray), .slice none 0 0]) ?_ 2 _ rfl; (with_reducible repeat (first | apply d1 | apply d2 | apply d3)); refine blk_put (cs := #[.int .i64 ((rd_T39 l0 x4_2).f0), .string (⟨#[]⟩ : ByteArray), .string (⟨#[]⟩ : ByteArray), .slice none 0 0]) ?_ 1 _ rfl; (with_reducible repeat (first | apply d1 | apply d2 | apply d3)); refine blk_put (cs := #[.int .i64 0, .string (⟨#[]⟩ : ByteArray), .string (⟨#[]⟩ : ByteArray), .slice none 0 0]) ?_ 0 _ rfl; (with_reducible repeat (first | apply d1 | apply d2 | apply d3)); exact BK147.out))⟩; have n1_ : Aside0 (Below w.heap.size w w10) := ⟨(by rw [hw]; exact aE)⟩; clear hw; clear BK147; clear HB; have BK147 := n0_; have HB := n1_; clear n0_ n1_; have hcz11_0 : w10.cell? ⟨gb147, 0, none⟩ = some (.int .i64 ((rd_T39 l0 x4_2).f0)) := (blk_cell BK147.out 0).trans rfl; have hcz11_1 : w10.cell? ⟨gb147, 1, none⟩ = some (.string ((rd_T39 l0 x4_2).f1)) := (blk_cell BK147.out 1).trans rfl; have hcz11_2 : w10.cell? ⟨gb147, 2, none⟩ = some (.string ((rd_T39 l0 x4_2).f2)) := (blk_cell BK147.out 2).trans rfl; have hcz11_3 : w10.cell? ⟨gb147, 3, none⟩ = some (.slice A146_3 ((rd_T39 l0 x4_2).f3).length c146_3) := (blk_cell BK147.out 3).trans rfl; have hfz11_0 := blk_frozen BK147.out 0; have hfz11_1 := blk_frozen BK147.out 1; have hfz11_2 := blk_frozen BK147.out 2; have hfz11_3 := blk_frozen BK147.out 3))
     repeat (go_quiet (first | ((with_reducible refine gate_dst (N := 5) rfl ?_); (try (refine gate_guard (by rfl) ?_; dsimp only)); refine box_event ?hg (N := 5) ?hd (cs := #[.int .i64 0, .string (⟨#[]⟩ : ByteArray), .string (⟨#[]⟩ : ByteArray), .slice none 0 0]) (t := 39) ?hr ?_; (case hd => rfl); (case hg => rfl); (case hr => first | (go_simp; done) | (go_simp; rfl)); intro gb147 hg w8 hbox hb; have n0_ := Aside0.mk (below_step aB hb); have n1_ := Aside0.mk (hbox); have n2_ := Aside0.mk ((by rw [hg]; exact (below_size aB) : w.heap.size ≤ gb147)); have n3_ := Aside0.mk ((by rw [hg]; exact (below_size aB) : w.heap.size ≤ gb147)); clear HB; have HB := n0_; have BK147 := n1_; have GW147 := n2_; have GE147 := n3_; clear n0_ n1_ n2_ n3_; clear hb hbox hg; have hcz9_0 : w8.cell? ⟨gb147, 0, none⟩ = some (.int .i64 0) := (blk_cell BK147.out 0).trans rfl; have hcz9_1 : w8.cell? ⟨gb147, 1, none⟩ = some (.string (⟨#[]⟩ : ByteArray)) := (blk_cell BK147.out 1).trans rfl; have hcz9_2 : w8.cell? ⟨gb147, 2, none⟩ = some (.string (⟨#[]⟩ : ByteArray)) := (blk_cell BK147.out 2).trans rfl; have hcz9_3 : w8.cell? ⟨gb147, 3, none⟩ = some (.slice none 0 0) := (blk_cell BK147.out 3).trans rfl; have hfz9_0 := blk_frozen BK147.out 0; have hfz9_1 := blk_frozen BK147.out 1; have hfz9_2 := blk_frozen BK147.out 2; have hfz9_3 := blk_frozen BK147.out 3) | ((with_reducible refine gate_store (t := 39) (p := 5) rfl ?_); (try (rw [drewN_self w8]; generalize hq_ : World.drewN w8 _ = w8; have n0_ := Aside0.mk (blk_at hq_ BK147.out); have n1_ := Aside0.mk (below_at hq_ HB.out); clear hq_ BK147 HB; have BK147 := n0_; have HB := n1_; clear n0_ n1_)); refine store_event (t := 39) (p := 5) (v := ?vo_w10) (w1 := ((((w8.setCell ⟨gb147, 0, none⟩ (.int .i64 ((rd_T39 l0 x4_2).f0))).setCell ⟨gb147, 1, none⟩ (.string ((rd_T39 l0 x4_2).f1))).setCell ⟨gb147, 2, none⟩ (.string ((rd_T39 l0 x4_2).f2))).setCell ⟨gb147, 3, none⟩ (.slice A146_3 ((rd_T39 l0 x4_2).f3).length c146_3))) ?hg ?ho ?hn ?hr ?_; (case ho => rfl); (case hg => rfl); (case hn => rfl); (case hr => first | (go_simp; done) | (go_simp; rfl)); intro w10 hw; have n0_ : Aside0 (w10.heap[gb147]? = some (.cells #[.int .i64 ((rd_T39 l0 x4_2).f0), .string ((rd_T39 l0 x4_2).f1), .string ((rd_T39 l0 x4_2).f2), .slice A146_3 ((rd_T39 l0 x4_2).f3).length c146_3] 39 (0, 0))) := ⟨(by rw [hw]; exact (by (with_reducible repeat (first | apply d1 | apply d2 | apply d3)); refine blk_put (cs := #[.int .i64 ((rd_T39 l0 x4_2).f0), .string ((rd_T39 l0 x4_2).f1), .string ((rd_T39 l0 x4_2).f2), .slice none 0 0]) ?_ 3 _ rfl; (with_reducible repeat (first | apply d1 | apply d2 | apply d3)); refine blk_put (cs := #[.int .i64 ((rd_T39 l0 x4_2).f0), .string ((rd_T39 l0 x4_2).f1), .string (⟨#[]⟩ : ByteArray), .slice none 0 0]) ?_ 2 _ rfl; (with_reducible repeat (first | apply d1 | apply d2 | apply d3)); refine blk_put (cs := #[.int .i64 ((rd_T39 l0 x4_2).f0), .string (⟨#[]⟩ : ByteArray), .string (⟨#[]⟩ : ByteArray), .slice none 0 0]) ?_ 1 _ rfl; (with_reducible repeat (first | apply d1 | apply d2 | apply d3)); refine blk_put (cs := #[.int .i64 0, .string (⟨#[]⟩ : ByteArray), .string (⟨#[]⟩ : ByteArray), .slice none 0 0]) ?_ 0 _ rfl; (with_reducible repeat (first | apply d1 | apply d2 | apply d3)); exact BK147.out))⟩; have n1_ : Aside0 (Below w.heap.size w w10) := ⟨(by rw [hw]; exact aE)⟩; clear hw; clear BK147; clear HB; have BK147 := n0_; have HB := n1_; clear n0_ n1_; have hcz11_0 : w10.cell? ⟨gb147, 0, none⟩ = some (.int .i64 ((rd_T39 l0 x4_2).f0)) := (blk_cell BK147.out 0).trans rfl; have hcz11_1 : w10.cell? ⟨gb147, 1, none⟩ = some (.string ((rd_T39 l0 x4_2).f1)) := (blk_cell BK147.out 1).trans rfl; have hcz11_2 : w10.cell? ⟨gb147, 2, none⟩ = some (.string ((rd_T39 l0 x4_2).f2)) := (blk_cell BK147.out 2).trans rfl; have hcz11_3 : w10.cell? ⟨gb147, 3, none⟩ = some (.slice A146_3 ((rd_T39 l0 x4_2).f3).length c146_3) := (blk_cell BK147.out 3).trans rfl; have hfz11_0 := blk_frozen BK147.out 0; have hfz11_1 := blk_frozen BK147.out 1; have hfz11_2 := blk_frozen BK147.out 2; have hfz11_3 := blk_frozen BK147.out 3)); go_upto_block 2 with (first | ((with_reducible refine gate_dst (N := 5) rfl ?_); (try (refine gate_guard (by rfl) ?_; dsimp only)); refine box_event ?hg (N := 5) ?hd (cs := #[.int .i64 0, .string (⟨#[]⟩ : ByteArray), .string (⟨#[]⟩ : ByteArray), .slice none 0 0]) (t := 39) ?hr ?_; (case hd => rfl); (case hg => rfl); (case hr => first | (go_simp; done) | (go_simp; rfl)); intro gb147 hg w8 hbox hb; have n0_ := Aside0.mk (below_step aB hb); have n1_ := Aside0.mk (hbox); have n2_ := Aside0.mk ((by rw [hg]; exact (below_size aB) : w.heap.size ≤ gb147)); have n3_ := Aside0.mk ((by rw [hg]; exact (below_size aB) : w.heap.size ≤ gb147)); clear HB; have HB := n0_; have BK147 := n1_; have GW147 := n2_; have GE147 := n3_; clear n0_ n1_ n2_ n3_; clear hb hbox hg; have hcz9_0 : w8.cell? ⟨gb147, 0, none⟩ = some (.int .i64 0) := (blk_cell BK147.out 0).trans rfl; have hcz9_1 : w8.cell? ⟨gb147, 1, none⟩ = some (.string (⟨#[]⟩ : ByteArray)) := (blk_cell BK147.out 1).trans rfl; have hcz9_2 : w8.cell? ⟨gb147, 2, none⟩ = some (.string (⟨#[]⟩ : ByteArray)) := (blk_cell BK147.out 2).trans rfl; have hcz9_3 : w8.cell? ⟨gb147, 3, none⟩ = some (.slice none 0 0) := (blk_cell BK147.out 3).trans rfl; have hfz9_0 := blk_frozen BK147.out 0; have hfz9_1 := blk_frozen BK147.out 1; have hfz9_2 := blk_frozen BK147.out 2; have hfz9_3 := blk_frozen BK147.out 3) | ((with_reducible refine gate_store (t := 39) (p := 5) rfl ?_); (try (rw [drewN_self w8]; generalize hq_ : World.drewN w8 _ = w8; have n0_ := Aside0.mk (blk_at hq_ BK147.out); have n1_ := Aside0.mk (below_at hq_ HB.out); clear hq_ BK147 HB; have BK147 := n0_; have HB := n1_; clear n0_ n1_)); refine store_event (t := 39) (p := 5) (v := ?vo_w10) (w1 := ((((w8.setCell ⟨gb147, 0, none⟩ (.int .i64 ((rd_T39 l0 x4_2).f0))).setCell ⟨gb147, 1, none⟩ (.string ((rd_T39 l0 x4_2).f1))).setCell ⟨gb147, 2, none⟩ (.string ((rd_T39 l0 x4_2).f2))).setCell ⟨gb147, 3, none⟩ (.slice A146_3 ((rd_T39 l0 x4_2).f3).length c146_3))) ?hg ?ho ?hn ?hr ?_; (case ho => rfl); (case hg => rfl); (case hn => rfl); (case hr => first | (go_simp; done) | (go_simp; rfl)); intro w10 hw; have n0_ : Aside0 (w10.heap[gb147]? = some (.cells #[.int .i64 ((rd_T39 l0 x4_2).f0), .string ((rd_T39 l0 x4_2).f1), .string ((rd_T39 l0 x4_2).f2), .slice A146_3 ((rd_T39 l0 x4_2).f3).length c146_3] 39 (0, 0))) := ⟨(by rw [hw]; exact (by (with_reducible repeat (first | apply d1 | apply d2 | apply d3)); refine blk_put (cs := #[.int .i64 ((rd_T39 l0 x4_2).f0), .string ((rd_T39 l0 x4_2).f1), .string ((rd_T39 l0 x4_2).f2), .slice none 0 0]) ?_ 3 _ rfl; (with_reducible repeat (first | apply d1 | apply d2 | apply d3)); refine blk_put (cs := #[.int .i64 ((rd_T39 l0 x4_2).f0), .string ((rd_T39 l0 x4_2).f1), .string (⟨#[]⟩ : ByteArray), .slice none 0 0]) ?_ 2 _ rfl; (with_reducible repeat (first | apply d1 | apply d2 | apply d3)); refine blk_put (cs := #[.int .i64 ((rd_T39 l0 x4_2).f0), .string (⟨#[]⟩ : ByteArray), .string (⟨#[]⟩ : ByteArray), .slice none 0 0]) ?_ 1 _ rfl; (with_reducible repeat (first | apply d1 | apply d2 | apply d3)); refine blk_put (cs := #[.int .i64 0, .string (⟨#[]⟩ : ByteArray), .string (⟨#[]⟩ : ByteArray), .slice none 0 0]) ?_ 0 _ rfl; (with_reducible repeat (first | apply d1 | apply d2 | apply d3)); exact BK147.out))⟩; have n1_ : Aside0 (Below w.heap.size w w10) := ⟨(by rw [hw]; exact aE)⟩; clear hw; clear BK147; clear HB; have BK147 := n0_; have HB := n1_; clear n0_ n1_; have hcz11_0 : w10.cell? ⟨gb147, 0, none⟩ = some (.int .i64 ((rd_T39 l0 x4_2).f0)) := (blk_cell BK147.out 0).trans rfl; have hcz11_1 : w10.cell? ⟨gb147, 1, none⟩ = some (.string ((rd_T39 l0 x4_2).f1)) := (blk_cell BK147.out 1).trans rfl; have hcz11_2 : w10.cell? ⟨gb147, 2, none⟩ = some (.string ((rd_T39 l0 x4_2).f2)) := (blk_cell BK147.out 2).trans rfl; have hcz11_3 : w10.cell? ⟨gb147, 3, none⟩ = some (.slice A146_3 ((rd_T39 l0 x4_2).f3).length c146_3) := (blk_cell BK147.out 3).trans rfl; have hfz11_0 := blk_frozen BK147.out 0; have hfz11_1 := blk_frozen BK147.out 1; have hfz11_2 := blk_frozen BK147.out 2; have hfz11_3 := blk_frozen BK147.out 3)))
     (try simp only [Act.put, List.setIfInBounds_toArray, List.set_cons_zero, List.set_cons_succ])
     go_cut [3] (fun v3 wc => ∃ (kq : Nat) (x3_6 : Int), v3 = .int .i64 x3_6 ∧ Aside0 (spec_DocOk.j3 kq l0 x3_6 x4_2 ((rd_T39 l0 x4_2).f0) ((rd_T39 l0 x4_2).f1) ((rd_T39 l0 x4_2).f2) ((rd_T39 l0 x4_2).f3) = some r) ∧ Aside0 (kq ≤ k2) ∧ Aside0 (wc.heap[gb147]? = some (.cells #[.int .i64 ((rd_T39 l0 x4_2).f0), .string ((rd_T39 l0 x4_2).f1), .string ((rd_T39 l0 x4_2).f2), (.slice A146_3 ((rd_T39 l0 x4_2).f3).length c146_3)] 39 (0, 0))) ∧ Aside0 (Below w.heap.size w wc))
     case first =>
      have H := HC7.out
      clear HC7
      have H' := Aside0.mk H
      clear H
      go_wp2
      repeat (go_quiet (fail); try go_wp2)
      go_loopg [3, 6] k2 (fun kq v3 v6 w' => ∃ (x3_3 : Int) (x6_3 : Int), v3 = .int .i64 x3_3 ∧ v6 = .int .i64 x6_3 ∧ Aside0 (spec_DocOk.l1 kq l0 x3_3 x4_2 x6_3 ((rd_T39 l0 x4_2).f0) ((rd_T39 l0 x4_2).f1) ((rd_T39 l0 x4_2).f2) ((rd_T39 l0 x4_2).f3) = some r) ∧ Aside0 (kq ≤ k2) ∧ Aside0 (w'.heap[gb147]? = some (.cells #[.int .i64 ((rd_T39 l0 x4_2).f0), .string ((rd_T39 l0 x4_2).f1), .string ((rd_T39 l0 x4_2).f2), (.slice A146_3 ((rd_T39 l0 x4_2).f3).length c146_3)] 39 (0, 0))) ∧ Aside0 (Below w.heap.size w w'))
      case atStart => exact ⟨(wrap64 ((wrap64 (x3_2 + (((rd_T39 l0 x4_2).f1).size : Int))) + (((rd_T39 l0 x4_2).f2).size : Int))), (0), aR, aR, H', ⟨Nat.le_refl _⟩, ⟨aP BK147.out⟩, ⟨aE⟩⟩
      case round =>
       clear H'
       try clear c1
       try clear p1
       try clear q1
       try clear hx1
       try clear p2
       try clear c3
       try clear c3b0
       try clear c3b1
       try clear c4
       try clear c5
       try clear c5b0
       try clear c6
       try clear c6b0
       try clear p6
       try clear c10
       try clear hcz11_0
       try clear hcz11_1
       try clear hcz11_2
       try clear hcz11_3
       try clear hcz9_0
       try clear hcz9_1
       try clear hcz9_2
       try clear hcz9_3
       try clear hfz11_0
       try clear hfz11_1
       try clear hfz11_2
       try clear hfz11_3
       try clear hfz9_0
       try clear hfz9_1
       try clear hfz9_2
       try clear hfz9_3
       try clear hx146_0
       try clear hx146_1
       try clear hx146_2
       try clear hx146_3
       try clear p146
       try clear p2
       try clear q146
       obtain ⟨x3_3, x6_3, rfl, rfl, HA, HK3, BK147, HB⟩ := hrel
       cases gk with
       | zero => exact absurd HA.out (by simp [spec_DocOk.l1])
       | succ k3 =>
        have H := HA.out
        clear HA
        simp only [spec_DocOk.l1] at H
        by_cases c12 : x6_3 < (((rd_T39 l0 x4_2).f3).length : Int)
        rotate_left
        ·rw [if_neg c12] at H
         have c12b0 : decide (x6_3 < (((rd_T39 l0 x4_2).f3).length : Int)) = false := decide_eq_false c12
         clear c12
         (first | rw [c12b0] | (simp only [i64_w, i32_w]; rw [c12b0]) | skip)
         have H' := Aside0.mk H
         clear H
         have hcz17_0 : wr.cell? ⟨gb147, 0, none⟩ = some (.int .i64 ((rd_T39 l0 x4_2).f0)) := (blk_cell BK147.out 0).trans rfl
         have hcz17_1 : wr.cell? ⟨gb147, 1, none⟩ = some (.string ((rd_T39 l0 x4_2).f1)) := (blk_cell BK147.out 1).trans rfl
         have hcz17_2 : wr.cell? ⟨gb147, 2, none⟩ = some (.string ((rd_T39 l0 x4_2).f2)) := (blk_cell BK147.out 2).trans rfl
         have hcz17_3 : wr.cell? ⟨gb147, 3, none⟩ = some (.slice A146_3 ((rd_T39 l0 x4_2).f3).length c146_3) := (blk_cell BK147.out 3).trans rfl
         have hfz17_0 := blk_frozen BK147.out 0
         have hfz17_1 := blk_frozen BK147.out 1
         have hfz17_2 := blk_frozen BK147.out 2
         have hfz17_3 := blk_frozen BK147.out 3
         go_wp2
         repeat (go_quiet (fail); try go_wp2)
         go_meet
         case rel => exact ⟨_, (x3_3), aR, H', ⟨by have := HJ1.out; have := HK2.out; have := HK3.out; first | omega | exact Nat.le_refl _⟩, ⟨aP BK147.out⟩, ⟨aE⟩⟩
        rw [if_pos c12] at H
        have c12b0 : decide (x6_3 < (((rd_T39 l0 x4_2).f3).length : Int)) = true := decide_eq_true c12
        clear c12
        (first | rw [c12b0] | (simp only [i64_w, i32_w]; rw [c12b0]) | skip)
        by_cases c13 : x6_3 < 20
        rotate_left
        ·rw [if_neg c13] at H
         have c13b0 : decide (x6_3 < 20) = false := decide_eq_false c13
         clear c13
         have H' := Aside0.mk H
         clear H
         have hcz16_0 : wr.cell? ⟨gb147, 0, none⟩ = some (.int .i64 ((rd_T39 l0 x4_2).f0)) := (blk_cell BK147.out 0).trans rfl
         have hcz16_1 : wr.cell? ⟨gb147, 1, none⟩ = some (.string ((rd_T39 l0 x4_2).f1)) := (blk_cell BK147.out 1).trans rfl
         have hcz16_2 : wr.cell? ⟨gb147, 2, none⟩ = some (.string ((rd_T39 l0 x4_2).f2)) := (blk_cell BK147.out 2).trans rfl
         have hcz16_3 : wr.cell? ⟨gb147, 3, none⟩ = some (.slice A146_3 ((rd_T39 l0 x4_2).f3).length c146_3) := (blk_cell BK147.out 3).trans rfl
         have hfz16_0 := blk_frozen BK147.out 0
         have hfz16_1 := blk_frozen BK147.out 1
         have hfz16_2 := blk_frozen BK147.out 2
         have hfz16_3 := blk_frozen BK147.out 3
         go_wp2
         repeat (go_quiet (fail); try go_wp2)
         go_meet
         case rel => exact ⟨_, (x3_3), aR, H', ⟨by have := HJ1.out; have := HK2.out; have := HK3.out; first | omega | exact Nat.le_refl _⟩, ⟨aP BK147.out⟩, ⟨aE⟩⟩
        rw [if_pos c13] at H
        have c13b0 : decide (x6_3 < 20) = true := decide_eq_true c13
        clear c13
        by_cases c14 : 0 ≤ x6_3
        rotate_left
        ·rw [if_neg c14] at H
         exact absurd H (by simp)
        rw [if_pos c14] at H
        have c14b0 : decide (0 ≤ x6_3) = true := decide_eq_true c14
        clear c14
        have H' := Aside0.mk H
        clear H
        have hcz15_0 : wr.cell? ⟨gb147, 0, none⟩ = some (.int .i64 ((rd_T39 l0 x4_2).f0)) := (blk_cell BK147.out 0).trans rfl
        have hcz15_1 : wr.cell? ⟨gb147, 1, none⟩ = some (.string ((rd_T39 l0 x4_2).f1)) := (blk_cell BK147.out 1).trans rfl
        have hcz15_2 : wr.cell? ⟨gb147, 2, none⟩ = some (.string ((rd_T39 l0 x4_2).f2)) := (blk_cell BK147.out 2).trans rfl
        have hcz15_3 : wr.cell? ⟨gb147, 3, none⟩ = some (.slice A146_3 ((rd_T39 l0 x4_2).f3).length c146_3) := (blk_cell BK147.out 3).trans rfl
        have hfz15_0 := blk_frozen BK147.out 0
        have hfz15_1 := blk_frozen BK147.out 1
        have hfz15_2 := blk_frozen BK147.out 2
        have hfz15_3 := blk_frozen BK147.out 3
        have p148 : 0 ≤ (x6_3 : Int) := aD
        have q148 : x6_3 < (((rd_T39 l0 x4_2).f3).length : Int) := aD
        obtain ⟨ad148, e148, hx148_0, hx148_1⟩ := at_T52 HR146_3.out x6_3 p148 q148
        cases e148
        replace hx148_0 := (HB.out.cell (World.block_lt_of_cell? w _ hx148_0)).trans hx148_0
        replace hx148_1 := (HB.out.cell (World.block_lt_of_cell? w _ hx148_1)).trans hx148_1
        replace p148 := eq_true p148
        replace q148 := eq_true q148
        have p149 : 0 ≤ (x6_3 : Int) := aD
        have q149 : x6_3 < (((rd_T39 l0 x4_2).f3).length : Int) := aD
        obtain ⟨ad149, e149, hx149_0, hx149_1⟩ := at_T52 HR146_3.out x6_3 p149 q149
        obtain rfl : ad148 = ad149 := (by injection e149)
        replace hx149_0 := (HB.out.cell (World.block_lt_of_cell? w _ hx149_0)).trans hx149_0
        replace hx149_1 := (HB.out.cell (World.block_lt_of_cell? w _ hx149_1)).trans hx149_1
        replace p149 := eq_true p149
        replace q149 := eq_true q149
        go_wp2
        repeat (go_quiet (fail); try go_wp2)
        go_roundg k3
        case measure => have := HJ1.out; have := HK2.out; have := HK3.out; omega
        case rel => exact ⟨(wrap64 ((wrap64 (x3_3 + (((rd_T52 ((rd_T39 l0 x4_2).f3) x6_3).f0).size : Int))) + (((rd_T52 ((rd_T39 l0 x4_2).f3) x6_3).f1).size : Int))), (wrap64 (x6_3 + 1)), aR, aR, H', ⟨by have := HJ1.out; have := HK2.out; have := HK3.out; omega⟩, ⟨aP BK147.out⟩, ⟨aE⟩⟩
     case rest =>
      clear HC7
      try clear c1
      try clear p1
      try clear q1
      try clear hx1
      try clear p2
      try clear c3
      try clear c3b0
      try clear c3b1
      try clear c4
      try clear c5
      try clear c5b0
      try clear c6
      try clear c6b0
      try clear p6
      try clear c10
      try clear c12
      try clear c12b0
      try clear c13
      try clear c13b0
      try clear c14
      try clear c14b0
      try clear p14
      try clear q14
      try clear hx14
      try clear hcz11_0
      try clear hcz11_1
      try clear hcz11_2
      try clear hcz11_3
      try clear hcz15_0
      try clear hcz15_1
      try clear hcz15_2
      try clear hcz15_3
      try clear hcz16_0
      try clear hcz16_1
      try clear hcz16_2
      try clear hcz16_3
      try clear hcz17_0
      try clear hcz17_1
      try clear hcz17_2
      try clear hcz17_3
      try clear hcz9_0
      try clear hcz9_1
      try clear hcz9_2
      try clear hcz9_3
      try clear hfz11_0
      try clear hfz11_1
      try clear hfz11_2
      try clear hfz11_3
      try clear hfz15_0
      try clear hfz15_1
      try clear hfz15_2
      try clear hfz15_3
      try clear hfz16_0
      try clear hfz16_1
      try clear hfz16_2
      try clear hfz16_3
      try clear hfz17_0
      try clear hfz17_1
      try clear hfz17_2
      try clear hfz17_3
      try clear hfz9_0
      try clear hfz9_1
      try clear hfz9_2
      try clear hfz9_3
      try clear hx146_0
      try clear hx146_1
      try clear hx146_2
      try clear hx146_3
      try clear hx148_0
      try clear hx148_1
      try clear hx149_0
      try clear hx149_1
      try clear p1
      try clear p146
      try clear p148
      try clear p149
      try clear p2
      try clear p6
      try clear q1
      try clear q146
      try clear q148
      try clear q149
      obtain ⟨kq, x3_6, rfl, HA, HJ6, BK147, HB⟩ := hcut
      cases kq with
      | zero => exact absurd HA.out (by simp [spec_DocOk.j3])
      | succ kj6 =>
       have H := HA.out
       clear HA
       simp only [spec_DocOk.j3] at H
       by_cases c18 : x3_6 > 2500
       ·rw [if_pos c18] at H
        have c18b0 : decide (2500 < x3_6) = true := decide_eq_true c18
        clear c18
        obtain rfl := Option.some.inj H
        go_wp2
        repeat (go_quiet (fail); try go_wp2)
        go_ret
        exact ⟨by first | rfl | (simp only [aX1, aX2]; rfl) | (simp [*] <;> rfl), aE⟩
       rw [if_neg c18] at H
       have c18b0 : decide (2500 < x3_6) = false := decide_eq_false c18
       clear c18
       have HC19 := Aside0.mk H
       clear H
       go_upto_if 66 with (fail)
       repeat (go_quiet (fail); go_upto_if 66 with (fail))
       go_cut [] (fun wc => ∃ (kq : Nat), Aside0 (spec_DocOk.j4 kq l0 x3_6 x4_2 ((rd_T39 l0 x4_2).f0) ((rd_T39 l0 x4_2).f1) ((rd_T39 l0 x4_2).f2) ((rd_T39 l0 x4_2).f3) = some r) ∧ Aside0 (kq ≤ kj6) ∧ Aside0 (wc.heap[gb147]? = some (.cells #[.int .i64 ((rd_T39 l0 x4_2).f0), .string ((rd_T39 l0 x4_2).f1), .string ((rd_T39 l0 x4_2).f2), (.slice A146_3 ((rd_T39 l0 x4_2).f3).length c146_3)] 39 (0, 0))) ∧ Aside0 (Below w.heap.size w wc))
       case first =>
        have H := HC19.out
        clear HC19
        by_cases c20 : x4_2 = 0
        ·rw [if_pos c20] at H
         have c20b0 : (x4_2 == 0) = true := beq_iff_eq.mpr c20
         have c20b1 : (x4_2 != 0) = false := bne_eq_false_iff_eq.mpr c20
         clear c20
         (first | rw [c20b0] | (simp only [i64_w, i32_w]; rw [c20b0]) | skip)
         by_cases c21 : ((rd_T39 l0 x4_2).f0) = (-1)
         rotate_left
         ·rw [if_neg c21] at H
          have c21b0 : (((rd_T39 l0 x4_2).f0) == (-1)) = false := beq_eq_false_iff_ne.mpr c21
          have c21b1 : (((rd_T39 l0 x4_2).f0) != (-1)) = true := bne_iff_ne.mpr c21
          obtain rfl := Option.some.inj H
          have hcz25_0 : wc.cell? ⟨gb147, 0, none⟩ = some (.int .i64 ((rd_T39 l0 x4_2).f0)) := (blk_cell BK147.out 0).trans rfl
          have hcz25_1 : wc.cell? ⟨gb147, 1, none⟩ = some (.string ((rd_T39 l0 x4_2).f1)) := (blk_cell BK147.out 1).trans rfl
          have hcz25_2 : wc.cell? ⟨gb147, 2, none⟩ = some (.string ((rd_T39 l0 x4_2).f2)) := (blk_cell BK147.out 2).trans rfl
          have hcz25_3 : wc.cell? ⟨gb147, 3, none⟩ = some (.slice A146_3 ((rd_T39 l0 x4_2).f3).length c146_3) := (blk_cell BK147.out 3).trans rfl
          have hfz25_0 := blk_frozen BK147.out 0
          have hfz25_1 := blk_frozen BK147.out 1
          have hfz25_2 := blk_frozen BK147.out 2
          have hfz25_3 := blk_frozen BK147.out 3
          go_wp2
          repeat (go_quiet (fail); try go_wp2)
          go_ret
          exact ⟨by first | rfl | (simp only [aX1, aX2]; rfl) | (simp [*] <;> rfl), aE⟩
         rw [if_pos c21] at H
         have c21b0 : (((rd_T39 l0 x4_2).f0) == (-1)) = true := beq_iff_eq.mpr c21
         have c21b1 : (((rd_T39 l0 x4_2).f0) != (-1)) = false := bne_eq_false_iff_eq.mpr c21
         clear c21
         by_cases c22 : ((rd_T39 l0 x4_2).f1).toList = ([] : List UInt8)
         ·rw [if_pos c22] at H
          have c22b0 : (((rd_T39 l0 x4_2).f1).toList == ([] : List UInt8)) = true := beq_iff_eq.mpr c22
          have c22b1 : (((rd_T39 l0 x4_2).f1).toList != ([] : List UInt8)) = false := bne_eq_false_iff_eq.mpr c22
          have c22b2 : (((rd_T39 l0 x4_2).f1)).toList.isEmpty = true := by (first | exact (List.isEmpty_iff.mpr (eq_of_beq c22b0)) | exact (Bool.eq_false_iff.mpr (fun h_ => by rw [List.isEmpty_iff.mp h_] at c22b0; cases c22b0)))
          clear c22
          obtain rfl := Option.some.inj H
          have hcz23_0 : wc.cell? ⟨gb147, 0, none⟩ = some (.int .i64 ((rd_T39 l0 x4_2).f0)) := (blk_cell BK147.out 0).trans rfl
          have hcz23_1 : wc.cell? ⟨gb147, 1, none⟩ = some (.string ((rd_T39 l0 x4_2).f1)) := (blk_cell BK147.out 1).trans rfl
          have hcz23_2 : wc.cell? ⟨gb147, 2, none⟩ = some (.string ((rd_T39 l0 x4_2).f2)) := (blk_cell BK147.out 2).trans rfl
          have hcz23_3 : wc.cell? ⟨gb147, 3, none⟩ = some (.slice A146_3 ((rd_T39 l0 x4_2).f3).length c146_3) := (blk_cell BK147.out 3).trans rfl
          have hfz23_0 := blk_frozen BK147.out 0
          have hfz23_1 := blk_frozen BK147.out 1
          have hfz23_2 := blk_frozen BK147.out 2
          have hfz23_3 := blk_frozen BK147.out 3
          go_wp2
          repeat (go_quiet (fail); try go_wp2)
          go_ret
          exact ⟨by first | rfl | (simp only [aX1, aX2]; rfl) | (simp [*] <;> rfl), aE⟩
         rw [if_neg c22] at H
         have c22b0 : (((rd_T39 l0 x4_2).f1).toList == ([] : List UInt8)) = false := beq_eq_false_iff_ne.mpr c22
         have c22b1 : (((rd_T39 l0 x4_2).f1).toList != ([] : List UInt8)) = true := bne_iff_ne.mpr c22
         have c22b2 : (((rd_T39 l0 x4_2).f1)).toList.isEmpty = false := by (first | exact (List.isEmpty_iff.mpr (eq_of_beq c22b0)) | exact (Bool.eq_false_iff.mpr (fun h_ => by rw [List.isEmpty_iff.mp h_] at c22b0; cases c22b0)))
         have H' := Aside0.mk H
         clear H
         have hcz24_0 : wc.cell? ⟨gb147, 0, none⟩ = some (.int .i64 ((rd_T39 l0 x4_2).f0)) := (blk_cell BK147.out 0).trans rfl
         have hcz24_1 : wc.cell? ⟨gb147, 1, none⟩ = some (.string ((rd_T39 l0 x4_2).f1)) := (blk_cell BK147.out 1).trans rfl
         have hcz24_2 : wc.cell? ⟨gb147, 2, none⟩ = some (.string ((rd_T39 l0 x4_2).f2)) := (blk_cell BK147.out 2).trans rfl
         have hcz24_3 : wc.cell? ⟨gb147, 3, none⟩ = some (.slice A146_3 ((rd_T39 l0 x4_2).f3).length c146_3) := (blk_cell BK147.out 3).trans rfl
         have hfz24_0 := blk_frozen BK147.out 0
         have hfz24_1 := blk_frozen BK147.out 1
         have hfz24_2 := blk_frozen BK147.out 2
         have hfz24_3 := blk_frozen BK147.out 3
         go_wp2
         repeat (go_quiet (fail); try go_wp2)
         go_meet
         case rel => exact ⟨_, H', ⟨by have := HJ1.out; have := HK2.out; have := HJ6.out; first | omega | exact Nat.le_refl _⟩, ⟨aP BK147.out⟩, ⟨aE⟩⟩
        rw [if_neg c20] at H
        have c20b0 : (x4_2 == 0) = false := beq_eq_false_iff_ne.mpr c20
        have c20b1 : (x4_2 != 0) = true := bne_iff_ne.mpr c20
        (first | rw [c20b0] | (simp only [i64_w, i32_w]; rw [c20b0]) | skip)
        replace H := Option.bind_eq_some_iff.mp H
        obtain ⟨t150, A260, H⟩ := H
        replace H : (if t150 = true then (if 0 ≤ ((rd_T39 l0 x4_2).f0) then (if ((rd_T39 l0 x4_2).f0) < (l0.length : Int) then (if ((rd_T39 l0 ((rd_T39 l0 x4_2).f0)).f1).toList = ([] : List UInt8) then (some false) else (spec_DocOk.j4 kj6 l0 x3_6 x4_2 ((rd_T39 l0 x4_2).f0) ((rd_T39 l0 x4_2).f1) ((rd_T39 l0 x4_2).f2) ((rd_T39 l0 x4_2).f3))) else (none)) else (none)) else (some false)) = some r := H
        have A26 := Aside0.mk A260
        clear A260
        by_cases c27 : t150 = true
        rotate_left
        ·replace c27 := Bool.eq_false_iff.mpr c27
         subst c27
         have H1 : (some false) = some r := by rw [if_neg (show ¬ (false = true) by decide)] at H; exact H
         clear H
         have H := H1
         clear H1
         obtain rfl := Option.some.inj H
         have hcz33_0 : wc.cell? ⟨gb147, 0, none⟩ = some (.int .i64 ((rd_T39 l0 x4_2).f0)) := (blk_cell BK147.out 0).trans rfl
         have hcz33_1 : wc.cell? ⟨gb147, 1, none⟩ = some (.string ((rd_T39 l0 x4_2).f1)) := (blk_cell BK147.out 1).trans rfl
         have hcz33_2 : wc.cell? ⟨gb147, 2, none⟩ = some (.string ((rd_T39 l0 x4_2).f2)) := (blk_cell BK147.out 2).trans rfl
         have hcz33_3 : wc.cell? ⟨gb147, 3, none⟩ = some (.slice A146_3 ((rd_T39 l0 x4_2).f3).length c146_3) := (blk_cell BK147.out 3).trans rfl
         have hfz33_0 := blk_frozen BK147.out 0
         have hfz33_1 := blk_frozen BK147.out 1
         have hfz33_2 := blk_frozen BK147.out 2
         have hfz33_3 := blk_frozen BK147.out 3
         go_wp2_with (first | (go_at_call 19; (with_reducible refine (spec_l1In.calls ((rd_T39 l0 x4_2).f0) 0 (wrap64 (x4_2 - 1)) false _ A26.out).mono ?_); rintro e w' ⟨rfl, ⟨nd, rfl⟩⟩; (try first | exact aZ1 | exact aZ2)))
         repeat (go_quiet (first | (go_at_call 19; (with_reducible refine (spec_l1In.calls ((rd_T39 l0 x4_2).f0) 0 (wrap64 (x4_2 - 1)) false _ A26.out).mono ?_); rintro e w' ⟨rfl, ⟨nd, rfl⟩⟩; (try first | exact aZ1 | exact aZ2))); try go_wp2_with (first | (go_at_call 19; (with_reducible refine (spec_l1In.calls ((rd_T39 l0 x4_2).f0) 0 (wrap64 (x4_2 - 1)) false _ A26.out).mono ?_); rintro e w' ⟨rfl, ⟨nd, rfl⟩⟩; (try first | exact aZ1 | exact aZ2))))
         go_ret
         exact ⟨by first | rfl | (simp only [aX1, aX2]; rfl) | (simp [*] <;> rfl), aE⟩
        subst c27
        have H1 : (if 0 ≤ ((rd_T39 l0 x4_2).f0) then (if ((rd_T39 l0 x4_2).f0) < (l0.length : Int) then (if ((rd_T39 l0 ((rd_T39 l0 x4_2).f0)).f1).toList = ([] : List UInt8) then (some false) else (spec_DocOk.j4 kj6 l0 x3_6 x4_2 ((rd_T39 l0 x4_2).f0) ((rd_T39 l0 x4_2).f1) ((rd_T39 l0 x4_2).f2) ((rd_T39 l0 x4_2).f3))) else (none)) else (none)) = some r := by rw [if_pos rfl] at H; exact H
        clear H
        have H := H1
        clear H1
        by_cases c28 : 0 ≤ ((rd_T39 l0 x4_2).f0)
        rotate_left
        ·rw [if_neg c28] at H
         exact absurd H (by simp)
        rw [if_pos c28] at H
        have c28b0 : decide (0 ≤ ((rd_T39 l0 x4_2).f0)) = true := decide_eq_true c28
        clear c28
        by_cases c29 : ((rd_T39 l0 x4_2).f0) < (l0.length : Int)
        rotate_left
        ·rw [if_neg c29] at H
         exact absurd H (by simp)
        rw [if_pos c29] at H
        have c29b0 : decide (((rd_T39 l0 x4_2).f0) < (l0.length : Int)) = true := decide_eq_true c29
        clear c29
        by_cases c30 : ((rd_T39 l0 ((rd_T39 l0 x4_2).f0)).f1).toList = ([] : List UInt8)
        ·rw [if_pos c30] at H
         have c30b0 : (((rd_T39 l0 ((rd_T39 l0 x4_2).f0)).f1).toList == ([] : List UInt8)) = true := beq_iff_eq.mpr c30
         have c30b1 : (((rd_T39 l0 ((rd_T39 l0 x4_2).f0)).f1).toList != ([] : List UInt8)) = false := bne_eq_false_iff_eq.mpr c30
         have c30b2 : (((rd_T39 l0 ((rd_T39 l0 x4_2).f0)).f1)).toList.isEmpty = true := by (first | exact (List.isEmpty_iff.mpr (eq_of_beq c30b0)) | exact (Bool.eq_false_iff.mpr (fun h_ => by rw [List.isEmpty_iff.mp h_] at c30b0; cases c30b0)))
         clear c30
         obtain rfl := Option.some.inj H
         have hcz31_0 : wc.cell? ⟨gb147, 0, none⟩ = some (.int .i64 ((rd_T39 l0 x4_2).f0)) := (blk_cell BK147.out 0).trans rfl
         have hcz31_1 : wc.cell? ⟨gb147, 1, none⟩ = some (.string ((rd_T39 l0 x4_2).f1)) := (blk_cell BK147.out 1).trans rfl
         have hcz31_2 : wc.cell? ⟨gb147, 2, none⟩ = some (.string ((rd_T39 l0 x4_2).f2)) := (blk_cell BK147.out 2).trans rfl
         have hcz31_3 : wc.cell? ⟨gb147, 3, none⟩ = some (.slice A146_3 ((rd_T39 l0 x4_2).f3).length c146_3) := (blk_cell BK147.out 3).trans rfl
         have hfz31_0 := blk_frozen BK147.out 0
         have hfz31_1 := blk_frozen BK147.out 1
         have hfz31_2 := blk_frozen BK147.out 2
         have hfz31_3 := blk_frozen BK147.out 3
         go_wp2_with (first | (go_at_call 19; (with_reducible refine (spec_l1In.calls ((rd_T39 l0 x4_2).f0) 0 (wrap64 (x4_2 - 1)) true _ A26.out).mono ?_); rintro e w' ⟨rfl, ⟨nd, rfl⟩⟩; (try first | exact aZ1 | exact aZ2); have p151 : 0 ≤ (((rd_T39 l0 x4_2).f0) : Int) := aD; have q151 : ((rd_T39 l0 x4_2).f0) < (l0.length : Int) := aD; obtain ⟨ad151, A151_3, c151_3, e151, hx151_0, hx151_1, hx151_2, hx151_3, hl151_3, hi151_3⟩ := at_T39 HR0.out ((rd_T39 l0 x4_2).f0) p151 q151; obtain rfl : ad146 = ad151 := (by injection e151); replace hx151_0 := (HB.out.cell (World.block_lt_of_cell? w _ hx151_0)).trans hx151_0; replace hx151_1 := (HB.out.cell (World.block_lt_of_cell? w _ hx151_1)).trans hx151_1; replace hx151_2 := (HB.out.cell (World.block_lt_of_cell? w _ hx151_2)).trans hx151_2; replace hx151_3 := (HB.out.cell (World.block_lt_of_cell? w _ hx151_3)).trans hx151_3; have HR151_3 := Aside0.mk hi151_3; have HC151_3 := Aside0.mk hl151_3; clear hi151_3 hl151_3; replace p151 := eq_true p151; replace q151 := eq_true q151))
         repeat (go_quiet (first | (go_at_call 19; (with_reducible refine (spec_l1In.calls ((rd_T39 l0 x4_2).f0) 0 (wrap64 (x4_2 - 1)) true _ A26.out).mono ?_); rintro e w' ⟨rfl, ⟨nd, rfl⟩⟩; (try first | exact aZ1 | exact aZ2); have p151 : 0 ≤ (((rd_T39 l0 x4_2).f0) : Int) := aD; have q151 : ((rd_T39 l0 x4_2).f0) < (l0.length : Int) := aD; obtain ⟨ad151, A151_3, c151_3, e151, hx151_0, hx151_1, hx151_2, hx151_3, hl151_3, hi151_3⟩ := at_T39 HR0.out ((rd_T39 l0 x4_2).f0) p151 q151; obtain rfl : ad146 = ad151 := (by injection e151); replace hx151_0 := (HB.out.cell (World.block_lt_of_cell? w _ hx151_0)).trans hx151_0; replace hx151_1 := (HB.out.cell (World.block_lt_of_cell? w _ hx151_1)).trans hx151_1; replace hx151_2 := (HB.out.cell (World.block_lt_of_cell? w _ hx151_2)).trans hx151_2; replace hx151_3 := (HB.out.cell (World.block_lt_of_cell? w _ hx151_3)).trans hx151_3; have HR151_3 := Aside0.mk hi151_3; have HC151_3 := Aside0.mk hl151_3; clear hi151_3 hl151_3; replace p151 := eq_true p151; replace q151 := eq_true q151)); try go_wp2_with (first | (go_at_call 19; (with_reducible refine (spec_l1In.calls ((rd_T39 l0 x4_2).f0) 0 (wrap64 (x4_2 - 1)) true _ A26.out).mono ?_); rintro e w' ⟨rfl, ⟨nd, rfl⟩⟩; (try first | exact aZ1 | exact aZ2); have p151 : 0 ≤ (((rd_T39 l0 x4_2).f0) : Int) := aD; have q151 : ((rd_T39 l0 x4_2).f0) < (l0.length : Int) := aD; obtain ⟨ad151, A151_3, c151_3, e151, hx151_0, hx151_1, hx151_2, hx151_3, hl151_3, hi151_3⟩ := at_T39 HR0.out ((rd_T39 l0 x4_2).f0) p151 q151; obtain rfl : ad146 = ad151 := (by injection e151); replace hx151_0 := (HB.out.cell (World.block_lt_of_cell? w _ hx151_0)).trans hx151_0; replace hx151_1 := (HB.out.cell (World.block_lt_of_cell? w _ hx151_1)).trans hx151_1; replace hx151_2 := (HB.out.cell (World.block_lt_of_cell? w _ hx151_2)).trans hx151_2; replace hx151_3 := (HB.out.cell (World.block_lt_of_cell? w _ hx151_3)).trans hx151_3; have HR151_3 := Aside0.mk hi151_3; have HC151_3 := Aside0.mk hl151_3; clear hi151_3 hl151_3; replace p151 := eq_true p151; replace q151 := eq_true q151)))
         go_ret
         exact ⟨by first | rfl | (simp only [aX1, aX2]; rfl) | (simp [*] <;> rfl), aE⟩
        rw [if_neg c30] at H
        have c30b0 : (((rd_T39 l0 ((rd_T39 l0 x4_2).f0)).f1).toList == ([] : List UInt8)) = false := beq_eq_false_iff_ne.mpr c30
        have c30b1 : (((rd_T39 l0 ((rd_T39 l0 x4_2).f0)).f1).toList != ([] : List UInt8)) = true := bne_iff_ne.mpr c30
        have c30b2 : (((rd_T39 l0 ((rd_T39 l0 x4_2).f0)).f1)).toList.isEmpty = false := by (first | exact (List.isEmpty_iff.mpr (eq_of_beq c30b0)) | exact (Bool.eq_false_iff.mpr (fun h_ => by rw [List.isEmpty_iff.mp h_] at c30b0; cases c30b0)))
        have H' := Aside0.mk H
        clear H
        have hcz32_0 : wc.cell? ⟨gb147, 0, none⟩ = some (.int .i64 ((rd_T39 l0 x4_2).f0)) := (blk_cell BK147.out 0).trans rfl
        have hcz32_1 : wc.cell? ⟨gb147, 1, none⟩ = some (.string ((rd_T39 l0 x4_2).f1)) := (blk_cell BK147.out 1).trans rfl
        have hcz32_2 : wc.cell? ⟨gb147, 2, none⟩ = some (.string ((rd_T39 l0 x4_2).f2)) := (blk_cell BK147.out 2).trans rfl
        have hcz32_3 : wc.cell? ⟨gb147, 3, none⟩ = some (.slice A146_3 ((rd_T39 l0 x4_2).f3).length c146_3) := (blk_cell BK147.out 3).trans rfl
        have hfz32_0 := blk_frozen BK147.out 0
        have hfz32_1 := blk_frozen BK147.out 1
        have hfz32_2 := blk_frozen BK147.out 2
        have hfz32_3 := blk_frozen BK147.out 3
        go_wp2_with (first | (go_at_call 19; (with_reducible refine (spec_l1In.calls ((rd_T39 l0 x4_2).f0) 0 (wrap64 (x4_2 - 1)) true _ A26.out).mono ?_); rintro e w' ⟨rfl, ⟨nd, rfl⟩⟩; (try first | exact aZ1 | exact aZ2); have p151 : 0 ≤ (((rd_T39 l0 x4_2).f0) : Int) := aD; have q151 : ((rd_T39 l0 x4_2).f0) < (l0.length : Int) := aD; obtain ⟨ad151, A151_3, c151_3, e151, hx151_0, hx151_1, hx151_2, hx151_3, hl151_3, hi151_3⟩ := at_T39 HR0.out ((rd_T39 l0 x4_2).f0) p151 q151; obtain rfl : ad146 = ad151 := (by injection e151); replace hx151_0 := (HB.out.cell (World.block_lt_of_cell? w _ hx151_0)).trans hx151_0; replace hx151_1 := (HB.out.cell (World.block_lt_of_cell? w _ hx151_1)).trans hx151_1; replace hx151_2 := (HB.out.cell (World.block_lt_of_cell? w _ hx151_2)).trans hx151_2; replace hx151_3 := (HB.out.cell (World.block_lt_of_cell? w _ hx151_3)).trans hx151_3; have HR151_3 := Aside0.mk hi151_3; have HC151_3 := Aside0.mk hl151_3; clear hi151_3 hl151_3; replace p151 := eq_true p151; replace q151 := eq_true q151))
        repeat (go_quiet (first | (go_at_call 19; (with_reducible refine (spec_l1In.calls ((rd_T39 l0 x4_2).f0) 0 (wrap64 (x4_2 - 1)) true _ A26.out).mono ?_); rintro e w' ⟨rfl, ⟨nd, rfl⟩⟩; (try first | exact aZ1 | exact aZ2); have p151 : 0 ≤ (((rd_T39 l0 x4_2).f0) : Int) := aD; have q151 : ((rd_T39 l0 x4_2).f0) < (l0.length : Int) := aD; obtain ⟨ad151, A151_3, c151_3, e151, hx151_0, hx151_1, hx151_2, hx151_3, hl151_3, hi151_3⟩ := at_T39 HR0.out ((rd_T39 l0 x4_2).f0) p151 q151; obtain rfl : ad146 = ad151 := (by injection e151); replace hx151_0 := (HB.out.cell (World.block_lt_of_cell? w _ hx151_0)).trans hx151_0; replace hx151_1 := (HB.out.cell (World.block_lt_of_cell? w _ hx151_1)).trans hx151_1; replace hx151_2 := (HB.out.cell (World.block_lt_of_cell? w _ hx151_2)).trans hx151_2; replace hx151_3 := (HB.out.cell (World.block_lt_of_cell? w _ hx151_3)).trans hx151_3; have HR151_3 := Aside0.mk hi151_3; have HC151_3 := Aside0.mk hl151_3; clear hi151_3 hl151_3; replace p151 := eq_true p151; replace q151 := eq_true q151)); try go_wp2_with (first | (go_at_call 19; (with_reducible refine (spec_l1In.calls ((rd_T39 l0 x4_2).f0) 0 (wrap64 (x4_2 - 1)) true _ A26.out).mono ?_); rintro e w' ⟨rfl, ⟨nd, rfl⟩⟩; (try first | exact aZ1 | exact aZ2); have p151 : 0 ≤ (((rd_T39 l0 x4_2).f0) : Int) := aD; have q151 : ((rd_T39 l0 x4_2).f0) < (l0.length : Int) := aD; obtain ⟨ad151, A151_3, c151_3, e151, hx151_0, hx151_1, hx151_2, hx151_3, hl151_3, hi151_3⟩ := at_T39 HR0.out ((rd_T39 l0 x4_2).f0) p151 q151; obtain rfl : ad146 = ad151 := (by injection e151); replace hx151_0 := (HB.out.cell (World.block_lt_of_cell? w _ hx151_0)).trans hx151_0; replace hx151_1 := (HB.out.cell (World.block_lt_of_cell? w _ hx151_1)).trans hx151_1; replace hx151_2 := (HB.out.cell (World.block_lt_of_cell? w _ hx151_2)).trans hx151_2; replace hx151_3 := (HB.out.cell (World.block_lt_of_cell? w _ hx151_3)).trans hx151_3; have HR151_3 := Aside0.mk hi151_3; have HC151_3 := Aside0.mk hl151_3; clear hi151_3 hl151_3; replace p151 := eq_true p151; replace q151 := eq_true q151)))
        go_meet
        case rel => exact ⟨_, H', ⟨by have := HJ1.out; have := HK2.out; have := HJ6.out; first | omega | exact Nat.le_refl _⟩, ⟨aP BK147.out⟩, ⟨aE⟩⟩
       case rest =>
        clear HC19
        try clear c1
        try clear p1
        try clear q1
        try clear hx1
        try clear c2
        try clear p2
        try clear c3
        try clear c3b0
        try clear c3b1
        try clear c4
        try clear c5
        try clear c5b0
        try clear c6
        try clear c6b0
        try clear p6
        try clear c10
        try clear c12
        try clear c12b0
        try clear c13
        try clear c13b0
        try clear c14
        try clear c14b0
        try clear p14
        try clear q14
        try clear hx14
        try clear c15
        try clear p15
        try clear q15
        try clear hx15
        try clear c18
        try clear c18b0
        try clear c20
        try clear c20b0
        try clear c20b1
        try clear c21
        try clear c21b0
        try clear c21b1
        try clear c22
        try clear c22b0
        try clear c22b1
        try clear c27
        try clear c28
        try clear c28b0
        try clear c29
        try clear c29b0
        try clear c30
        try clear c30b0
        try clear c30b1
        try clear hcz11_0
        try clear hcz11_1
        try clear hcz11_2
        try clear hcz11_3
        try clear hcz15_0
        try clear hcz15_1
        try clear hcz15_2
        try clear hcz15_3
        try clear hcz16_0
        try clear hcz16_1
        try clear hcz16_2
        try clear hcz16_3
        try clear hcz17_0
        try clear hcz17_1
        try clear hcz17_2
        try clear hcz17_3
        try clear hcz23_0
        try clear hcz23_1
        try clear hcz23_2
        try clear hcz23_3
        try clear hcz24_0
        try clear hcz24_1
        try clear hcz24_2
        try clear hcz24_3
        try clear hcz25_0
        try clear hcz25_1
        try clear hcz25_2
        try clear hcz25_3
        try clear hcz31_0
        try clear hcz31_1
        try clear hcz31_2
        try clear hcz31_3
        try clear hcz32_0
        try clear hcz32_1
        try clear hcz32_2
        try clear hcz32_3
        try clear hcz33_0
        try clear hcz33_1
        try clear hcz33_2
        try clear hcz33_3
        try clear hcz9_0
        try clear hcz9_1
        try clear hcz9_2
        try clear hcz9_3
        try clear hfz11_0
        try clear hfz11_1
        try clear hfz11_2
        try clear hfz11_3
        try clear hfz15_0
        try clear hfz15_1
        try clear hfz15_2
        try clear hfz15_3
        try clear hfz16_0
        try clear hfz16_1
        try clear hfz16_2
        try clear hfz16_3
        try clear hfz17_0
        try clear hfz17_1
        try clear hfz17_2
        try clear hfz17_3
        try clear hfz23_0
        try clear hfz23_1
        try clear hfz23_2
        try clear hfz23_3
        try clear hfz24_0
        try clear hfz24_1
        try clear hfz24_2
        try clear hfz24_3
        try clear hfz25_0
        try clear hfz25_1
        try clear hfz25_2
        try clear hfz25_3
        try clear hfz31_0
        try clear hfz31_1
        try clear hfz31_2
        try clear hfz31_3
        try clear hfz32_0
        try clear hfz32_1
        try clear hfz32_2
        try clear hfz32_3
        try clear hfz33_0
        try clear hfz33_1
        try clear hfz33_2
        try clear hfz33_3
        try clear hfz9_0
        try clear hfz9_1
        try clear hfz9_2
        try clear hfz9_3
        try clear hx146_0
        try clear hx146_1
        try clear hx146_2
        try clear hx146_3
        try clear hx148_0
        try clear hx148_1
        try clear hx149_0
        try clear hx149_1
        try clear hx151_0
        try clear hx151_1
        try clear hx151_2
        try clear hx151_3
        try clear p1
        try clear p14
        try clear p146
        try clear p148
        try clear p149
        try clear p151
        try clear p2
        try clear p6
        try clear q1
        try clear q14
        try clear q146
        try clear q148
        try clear q149
        try clear q151
        obtain ⟨kq, HA, HJ18, BK147, HB⟩ := hcut
        cases kq with
        | zero => exact absurd HA.out (by simp [spec_DocOk.j4])
        | succ kj18 =>
         have H := HA.out
         clear HA
         simp only [spec_DocOk.j4] at H
         have HC34 := Aside0.mk H
         clear H
         go_upto_if 91 with (fail)
         repeat (go_quiet (fail); go_upto_if 91 with (fail))
         go_cut [] (fun wc => ∃ (kq : Nat), Aside0 (spec_DocOk.j6 kq l0 x3_6 x4_2 ((rd_T39 l0 x4_2).f0) ((rd_T39 l0 x4_2).f1) ((rd_T39 l0 x4_2).f2) ((rd_T39 l0 x4_2).f3) = some r) ∧ Aside0 (kq ≤ kj18) ∧ Aside0 (wc.heap[gb147]? = some (.cells #[.int .i64 ((rd_T39 l0 x4_2).f0), .string ((rd_T39 l0 x4_2).f1), .string ((rd_T39 l0 x4_2).f2), (.slice A146_3 ((rd_T39 l0 x4_2).f3).length c146_3)] 39 (0, 0))) ∧ Aside0 (Below w.heap.size w wc))
         case first =>
          have H := HC34.out
          clear HC34
          by_cases c35 : x4_2 > 0
          rotate_left
          ·rw [if_neg c35] at H
           have c35b0 : decide (0 < x4_2) = false := decide_eq_false c35
           clear c35
           (first | rw [c35b0] | (simp only [i64_w, i32_w]; rw [c35b0]) | skip)
           have H' := Aside0.mk H
           clear H
           go_wp2
           repeat (go_quiet (fail); try go_wp2)
           go_meet
           case rel => exact ⟨_, H', ⟨by have := HJ1.out; have := HK2.out; have := HJ6.out; have := HJ18.out; first | omega | exact Nat.le_refl _⟩, ⟨aP BK147.out⟩, ⟨aE⟩⟩
          rw [if_pos c35] at H
          have c35b0 : decide (0 < x4_2) = true := decide_eq_true c35
          clear c35
          (first | rw [c35b0] | (simp only [i64_w, i32_w]; rw [c35b0]) | skip)
          have H' := Aside0.mk H
          clear H
          go_wp2
          repeat (go_quiet (fail); try go_wp2)
          go_loopg [7] kj18 (fun kq v7 w' => ∃ (x7_5 : Int), v7 = .int .i64 x7_5 ∧ Aside0 (spec_DocOk.l2 kq l0 x3_6 x4_2 x7_5 ((rd_T39 l0 x4_2).f0) ((rd_T39 l0 x4_2).f1) ((rd_T39 l0 x4_2).f2) ((rd_T39 l0 x4_2).f3) = some r) ∧ Aside0 (kq ≤ kj18) ∧ Aside0 (w'.heap[gb147]? = some (.cells #[.int .i64 ((rd_T39 l0 x4_2).f0), .string ((rd_T39 l0 x4_2).f1), .string ((rd_T39 l0 x4_2).f2), (.slice A146_3 ((rd_T39 l0 x4_2).f3).length c146_3)] 39 (0, 0))) ∧ Aside0 (Below w.heap.size w w'))
          case atStart => exact ⟨(wrap64 (x4_2 - 1)), aR, H', ⟨Nat.le_refl _⟩, ⟨aP BK147.out⟩, ⟨aE⟩⟩
          case round =>
           clear H'
           try clear c1
           try clear p1
           try clear q1
           try clear hx1
           try clear c2
           try clear p2
           try clear c3
           try clear c3b0
           try clear c3b1
           try clear c4
           try clear c5
           try clear c5b0
           try clear c6
           try clear c6b0
           try clear p6
           try clear c10
           try clear c12
           try clear c12b0
           try clear c13
           try clear c13b0
           try clear c14
           try clear c14b0
           try clear p14
           try clear q14
           try clear hx14
           try clear c15
           try clear p15
           try clear q15
           try clear hx15
           try clear c18
           try clear c18b0
           try clear c20
           try clear c20b0
           try clear c20b1
           try clear c21
           try clear c21b0
           try clear c21b1
           try clear c22
           try clear c22b0
           try clear c22b1
           try clear c27
           try clear c28
           try clear c28b0
           try clear c29
           try clear c29b0
           try clear c30
           try clear c30b0
           try clear c30b1
           try clear c35
           try clear c35b0
           try clear hcz11_0
           try clear hcz11_1
           try clear hcz11_2
           try clear hcz11_3
           try clear hcz15_0
           try clear hcz15_1
           try clear hcz15_2
           try clear hcz15_3
           try clear hcz16_0
           try clear hcz16_1
           try clear hcz16_2
           try clear hcz16_3
           try clear hcz17_0
           try clear hcz17_1
           try clear hcz17_2
           try clear hcz17_3
           try clear hcz23_0
           try clear hcz23_1
           try clear hcz23_2
           try clear hcz23_3
           try clear hcz24_0
           try clear hcz24_1
           try clear hcz24_2
           try clear hcz24_3
           try clear hcz25_0
           try clear hcz25_1
           try clear hcz25_2
           try clear hcz25_3
           try clear hcz31_0
           try clear hcz31_1
           try clear hcz31_2
           try clear hcz31_3
           try clear hcz32_0
           try clear hcz32_1
           try clear hcz32_2
           try clear hcz32_3
           try clear hcz33_0
           try clear hcz33_1
           try clear hcz33_2
           try clear hcz33_3
           try clear hcz9_0
           try clear hcz9_1
           try clear hcz9_2
           try clear hcz9_3
           try clear hfz11_0
           try clear hfz11_1
           try clear hfz11_2
           try clear hfz11_3
           try clear hfz15_0
           try clear hfz15_1
           try clear hfz15_2
           try clear hfz15_3
           try clear hfz16_0
           try clear hfz16_1
           try clear hfz16_2
           try clear hfz16_3
           try clear hfz17_0
           try clear hfz17_1
           try clear hfz17_2
           try clear hfz17_3
           try clear hfz23_0
           try clear hfz23_1
           try clear hfz23_2
           try clear hfz23_3
           try clear hfz24_0
           try clear hfz24_1
           try clear hfz24_2
           try clear hfz24_3
           try clear hfz25_0
           try clear hfz25_1
           try clear hfz25_2
           try clear hfz25_3
           try clear hfz31_0
           try clear hfz31_1
           try clear hfz31_2
           try clear hfz31_3
           try clear hfz32_0
           try clear hfz32_1
           try clear hfz32_2
           try clear hfz32_3
           try clear hfz33_0
           try clear hfz33_1
           try clear hfz33_2
           try clear hfz33_3
           try clear hfz9_0
           try clear hfz9_1
           try clear hfz9_2
           try clear hfz9_3
           try clear hx146_0
           try clear hx146_1
           try clear hx146_2
           try clear hx146_3
           try clear hx148_0
           try clear hx148_1
           try clear hx149_0
           try clear hx149_1
           try clear hx151_0
           try clear hx151_1
           try clear hx151_2
           try clear hx151_3
           try clear p1
           try clear p14
           try clear p146
           try clear p148
           try clear p149
           try clear p15
           try clear p151
           try clear p2
           try clear p6
           try clear q1
           try clear q14
           try clear q146
           try clear q148
           try clear q149
           try clear q15
           try clear q151
           obtain ⟨x7_5, rfl, HA, HK5, BK147, HB⟩ := hrel
           cases gk with
           | zero => exact absurd HA.out (by simp [spec_DocOk.l2])
           | succ k5 =>
            have H := HA.out
            clear HA
            simp only [spec_DocOk.l2] at H
            by_cases c36 : x7_5 ≥ 0
            rotate_left
            ·rw [if_neg c36] at H
             have c36b0 : decide (0 ≤ x7_5) = false := decide_eq_false c36
             clear c36
             by_cases c44 : x7_5 < 0
             ·rw [if_pos c44] at H
              have c44b0 : decide (x7_5 < 0) = true := decide_eq_true c44
              clear c44
              obtain rfl := Option.some.inj H
              go_wp2
              repeat (go_quiet (fail); try go_wp2)
              go_ret
              exact ⟨by first | rfl | (simp only [aX1, aX2]; rfl) | (simp [*] <;> rfl), aE⟩
             rw [if_neg c44] at H
             have c44b0 : decide (x7_5 < 0) = false := decide_eq_false c44
             clear c44
             have H' := Aside0.mk H
             clear H
             go_wp2
             repeat (go_quiet (fail); try go_wp2)
             go_meet
             case rel => exact ⟨_, H', ⟨by have := HJ1.out; have := HK2.out; have := HJ6.out; have := HJ18.out; have := HK5.out; first | omega | exact Nat.le_refl _⟩, ⟨aP BK147.out⟩, ⟨aE⟩⟩
            rw [if_pos c36] at H
            have c36b0 : decide (0 ≤ x7_5) = true := decide_eq_true c36
            clear c36
            by_cases c37 : x7_5 = ((rd_T39 l0 x4_2).f0)
            ·rw [if_pos c37] at H
             have c37b0 : (x7_5 == ((rd_T39 l0 x4_2).f0)) = true := beq_iff_eq.mpr c37
             have c37b1 : (x7_5 != ((rd_T39 l0 x4_2).f0)) = false := bne_eq_false_iff_eq.mpr c37
             clear c37
             by_cases c38 : x7_5 < 0
             ·rw [if_pos c38] at H
              have c38b0 : decide (x7_5 < 0) = true := decide_eq_true c38
              clear c38
              obtain rfl := Option.some.inj H
              have hcz39_0 : wr.cell? ⟨gb147, 0, none⟩ = some (.int .i64 ((rd_T39 l0 x4_2).f0)) := (blk_cell BK147.out 0).trans rfl
              have hcz39_1 : wr.cell? ⟨gb147, 1, none⟩ = some (.string ((rd_T39 l0 x4_2).f1)) := (blk_cell BK147.out 1).trans rfl
              have hcz39_2 : wr.cell? ⟨gb147, 2, none⟩ = some (.string ((rd_T39 l0 x4_2).f2)) := (blk_cell BK147.out 2).trans rfl
              have hcz39_3 : wr.cell? ⟨gb147, 3, none⟩ = some (.slice A146_3 ((rd_T39 l0 x4_2).f3).length c146_3) := (blk_cell BK147.out 3).trans rfl
              have hfz39_0 := blk_frozen BK147.out 0
              have hfz39_1 := blk_frozen BK147.out 1
              have hfz39_2 := blk_frozen BK147.out 2
              have hfz39_3 := blk_frozen BK147.out 3
              go_wp2
              repeat (go_quiet (fail); try go_wp2)
              go_ret
              exact ⟨by first | rfl | (simp only [aX1, aX2]; rfl) | (simp [*] <;> rfl), aE⟩
             rw [if_neg c38] at H
             have c38b0 : decide (x7_5 < 0) = false := decide_eq_false c38
             clear c38
             have H' := Aside0.mk H
             clear H
             have hcz40_0 : wr.cell? ⟨gb147, 0, none⟩ = some (.int .i64 ((rd_T39 l0 x4_2).f0)) := (blk_cell BK147.out 0).trans rfl
             have hcz40_1 : wr.cell? ⟨gb147, 1, none⟩ = some (.string ((rd_T39 l0 x4_2).f1)) := (blk_cell BK147.out 1).trans rfl
             have hcz40_2 : wr.cell? ⟨gb147, 2, none⟩ = some (.string ((rd_T39 l0 x4_2).f2)) := (blk_cell BK147.out 2).trans rfl
             have hcz40_3 : wr.cell? ⟨gb147, 3, none⟩ = some (.slice A146_3 ((rd_T39 l0 x4_2).f3).length c146_3) := (blk_cell BK147.out 3).trans rfl
             have hfz40_0 := blk_frozen BK147.out 0
             have hfz40_1 := blk_frozen BK147.out 1
             have hfz40_2 := blk_frozen BK147.out 2
             have hfz40_3 := blk_frozen BK147.out 3
             go_wp2
             repeat (go_quiet (fail); try go_wp2)
             go_meet
             case rel => exact ⟨_, H', ⟨by have := HJ1.out; have := HK2.out; have := HJ6.out; have := HJ18.out; have := HK5.out; first | omega | exact Nat.le_refl _⟩, ⟨aP BK147.out⟩, ⟨aE⟩⟩
            rw [if_neg c37] at H
            have c37b0 : (x7_5 == ((rd_T39 l0 x4_2).f0)) = false := beq_eq_false_iff_ne.mpr c37
            have c37b1 : (x7_5 != ((rd_T39 l0 x4_2).f0)) = true := bne_iff_ne.mpr c37
            by_cases c41 : 0 ≤ x7_5
            rotate_left
            ·rw [if_neg c41] at H
             exact absurd H (by simp)
            rw [if_pos c41] at H
            have c41b0 : decide (0 ≤ x7_5) = true := decide_eq_true c41
            clear c41
            by_cases c42 : x7_5 < (l0.length : Int)
            rotate_left
            ·rw [if_neg c42] at H
             exact absurd H (by simp)
            rw [if_pos c42] at H
            have c42b0 : decide (x7_5 < (l0.length : Int)) = true := decide_eq_true c42
            clear c42
            have H' := Aside0.mk H
            clear H
            have hcz43_0 : wr.cell? ⟨gb147, 0, none⟩ = some (.int .i64 ((rd_T39 l0 x4_2).f0)) := (blk_cell BK147.out 0).trans rfl
            have hcz43_1 : wr.cell? ⟨gb147, 1, none⟩ = some (.string ((rd_T39 l0 x4_2).f1)) := (blk_cell BK147.out 1).trans rfl
            have hcz43_2 : wr.cell? ⟨gb147, 2, none⟩ = some (.string ((rd_T39 l0 x4_2).f2)) := (blk_cell BK147.out 2).trans rfl
            have hcz43_3 : wr.cell? ⟨gb147, 3, none⟩ = some (.slice A146_3 ((rd_T39 l0 x4_2).f3).length c146_3) := (blk_cell BK147.out 3).trans rfl
            have hfz43_0 := blk_frozen BK147.out 0
            have hfz43_1 := blk_frozen BK147.out 1
            have hfz43_2 := blk_frozen BK147.out 2
            have hfz43_3 := blk_frozen BK147.out 3
            have p152 : 0 ≤ (x7_5 : Int) := aD
            have q152 : x7_5 < (l0.length : Int) := aD
            obtain ⟨ad152, A152_3, c152_3, e152, hx152_0, hx152_1, hx152_2, hx152_3, hl152_3, hi152_3⟩ := at_T39 HR0.out x7_5 p152 q152
            obtain rfl : ad146 = ad152 := (by injection e152)
            replace hx152_0 := (HB.out.cell (World.block_lt_of_cell? w _ hx152_0)).trans hx152_0
            replace hx152_1 := (HB.out.cell (World.block_lt_of_cell? w _ hx152_1)).trans hx152_1
            replace hx152_2 := (HB.out.cell (World.block_lt_of_cell? w _ hx152_2)).trans hx152_2
            replace hx152_3 := (HB.out.cell (World.block_lt_of_cell? w _ hx152_3)).trans hx152_3
            have HR152_3 := Aside0.mk hi152_3
            have HC152_3 := Aside0.mk hl152_3
            clear hi152_3 hl152_3
            replace p152 := eq_true p152
            replace q152 := eq_true q152
            go_wp2
            repeat (go_quiet (fail); try go_wp2)
            go_roundg k5
            case measure => have := HJ1.out; have := HK2.out; have := HJ6.out; have := HJ18.out; have := HK5.out; omega
            case rel => exact ⟨((rd_T39 l0 x7_5).f0), aR, H', ⟨by have := HJ1.out; have := HK2.out; have := HJ6.out; have := HJ18.out; have := HK5.out; omega⟩, ⟨aP BK147.out⟩, ⟨aE⟩⟩
         case rest =>
          clear HC34
          try clear c1
          try clear p1
          try clear q1
          try clear hx1
          try clear c2
          try clear p2
          try clear c3
          try clear c3b0
          try clear c3b1
          try clear c4
          try clear c5
          try clear c5b0
          try clear c6
          try clear c6b0
          try clear p6
          try clear c10
          try clear c12
          try clear c12b0
          try clear c13
          try clear c13b0
          try clear c14
          try clear c14b0
          try clear p14
          try clear q14
          try clear hx14
          try clear c15
          try clear p15
          try clear q15
          try clear hx15
          try clear c18
          try clear c18b0
          try clear c20
          try clear c20b0
          try clear c20b1
          try clear c21
          try clear c21b0
          try clear c21b1
          try clear c22
          try clear c22b0
          try clear c22b1
          try clear c27
          try clear c28
          try clear c28b0
          try clear c29
          try clear c29b0
          try clear c30
          try clear c30b0
          try clear c30b1
          try clear c35
          try clear c35b0
          try clear c36
          try clear c36b0
          try clear c37
          try clear c37b0
          try clear c37b1
          try clear c38
          try clear c38b0
          try clear c41
          try clear c41b0
          try clear c42
          try clear c42b0
          try clear c44
          try clear c44b0
          try clear hcz11_0
          try clear hcz11_1
          try clear hcz11_2
          try clear hcz11_3
          try clear hcz15_0
          try clear hcz15_1
          try clear hcz15_2
          try clear hcz15_3
          try clear hcz16_0
          try clear hcz16_1
          try clear hcz16_2
          try clear hcz16_3
          try clear hcz17_0
          try clear hcz17_1
          try clear hcz17_2
          try clear hcz17_3
          try clear hcz23_0
          try clear hcz23_1
          try clear hcz23_2
          try clear hcz23_3
          try clear hcz24_0
          try clear hcz24_1
          try clear hcz24_2
          try clear hcz24_3
          try clear hcz25_0
          try clear hcz25_1
          try clear hcz25_2
          try clear hcz25_3
          try clear hcz31_0
          try clear hcz31_1
          try clear hcz31_2
          try clear hcz31_3
          try clear hcz32_0
          try clear hcz32_1
          try clear hcz32_2
          try clear hcz32_3
          try clear hcz33_0
          try clear hcz33_1
          try clear hcz33_2
          try clear hcz33_3
          try clear hcz39_0
          try clear hcz39_1
          try clear hcz39_2
          try clear hcz39_3
          try clear hcz40_0
          try clear hcz40_1
          try clear hcz40_2
          try clear hcz40_3
          try clear hcz43_0
          try clear hcz43_1
          try clear hcz43_2
          try clear hcz43_3
          try clear hcz9_0
          try clear hcz9_1
          try clear hcz9_2
          try clear hcz9_3
          try clear hfz11_0
          try clear hfz11_1
          try clear hfz11_2
          try clear hfz11_3
          try clear hfz15_0
          try clear hfz15_1
          try clear hfz15_2
          try clear hfz15_3
          try clear hfz16_0
          try clear hfz16_1
          try clear hfz16_2
          try clear hfz16_3
          try clear hfz17_0
          try clear hfz17_1
          try clear hfz17_2
          try clear hfz17_3
          try clear hfz23_0
          try clear hfz23_1
          try clear hfz23_2
          try clear hfz23_3
          try clear hfz24_0
          try clear hfz24_1
          try clear hfz24_2
          try clear hfz24_3
          try clear hfz25_0
          try clear hfz25_1
          try clear hfz25_2
          try clear hfz25_3
          try clear hfz31_0
          try clear hfz31_1
          try clear hfz31_2
          try clear hfz31_3
          try clear hfz32_0
          try clear hfz32_1
          try clear hfz32_2
          try clear hfz32_3
          try clear hfz33_0
          try clear hfz33_1
          try clear hfz33_2
          try clear hfz33_3
          try clear hfz39_0
          try clear hfz39_1
          try clear hfz39_2
          try clear hfz39_3
          try clear hfz40_0
          try clear hfz40_1
          try clear hfz40_2
          try clear hfz40_3
          try clear hfz43_0
          try clear hfz43_1
          try clear hfz43_2
          try clear hfz43_3
          try clear hfz9_0
          try clear hfz9_1
          try clear hfz9_2
          try clear hfz9_3
          try clear hx146_0
          try clear hx146_1
          try clear hx146_2
          try clear hx146_3
          try clear hx148_0
          try clear hx148_1
          try clear hx149_0
          try clear hx149_1
          try clear hx151_0
          try clear hx151_1
          try clear hx151_2
          try clear hx151_3
          try clear hx152_0
          try clear hx152_1
          try clear hx152_2
          try clear hx152_3
          try clear p1
          try clear p14
          try clear p146
          try clear p148
          try clear p149
          try clear p15
          try clear p151
          try clear p152
          try clear p2
          try clear p6
          try clear q1
          try clear q14
          try clear q146
          try clear q148
          try clear q149
          try clear q15
          try clear q151
          try clear q152
          obtain ⟨kq, HA, HJ33, BK147, HB⟩ := hcut
          cases kq with
          | zero => exact absurd HA.out (by simp [spec_DocOk.j6])
          | succ kj33 =>
           have H := HA.out
           clear HA
           simp only [spec_DocOk.j6] at H
           replace H := Option.bind_eq_some_iff.mp H
           obtain ⟨t153, A450, H⟩ := H
           replace H : (if t153 ≥ 20 then (some false) else (if ((rd_T39 l0 x4_2).f1).toList = ([] : List UInt8) then (if ((rd_T39 l0 x4_2).f2).toList = ([] : List UInt8) then (spec_DocOk.j7 kj33 l0 x3_6 x4_2 true ((rd_T39 l0 x4_2).f0) ((rd_T39 l0 x4_2).f1) ((rd_T39 l0 x4_2).f2) ((rd_T39 l0 x4_2).f3)) else (if (((rd_T39 l0 x4_2).f3).length : Int) > 0 then (spec_DocOk.j7 kj33 l0 x3_6 x4_2 true ((rd_T39 l0 x4_2).f0) ((rd_T39 l0 x4_2).f1) ((rd_T39 l0 x4_2).f2) ((rd_T39 l0 x4_2).f3)) else ((spec_l1Text.f kj33 ((rd_T39 l0 x4_2).f2)).bind fun t154 => (spec_DocOk.j7 kj33 l0 x3_6 x4_2 (!t154) ((rd_T39 l0 x4_2).f0) ((rd_T39 l0 x4_2).f1) ((rd_T39 l0 x4_2).f2) ((rd_T39 l0 x4_2).f3))))) else (if ((rd_T39 l0 x4_2).f2).toList = ([] : List UInt8) then ((spec_l1Qual.f kj33 ((rd_T39 l0 x4_2).f1)).bind fun t157 => (if t157 = true then ((spec_l2Attrs.f kj33 ((rd_T39 l0 x4_2).f3)).bind fun t158 => (if t158 = true then (spec_DocOk.l0 kj33 l0 x3_6 (wrap64 (x4_2 + 1))) else (some false))) else (some false))) else (some false)))) = some r := H
           have A45 := Aside0.mk A450
           clear A450
           by_cases c46 : t153 ≥ 20
           ·rw [if_pos c46] at H
            have c46b0 : decide (20 ≤ t153) = true := decide_eq_true c46
            clear c46
            obtain rfl := Option.some.inj H
            go_wp2_with (first | (go_at_call 20; (with_reducible refine (spec_l2Deep.calls kj33 _ _ l0 x4_2 t153 _ ?side1 ?side2 A45.out).mono ?_); (case side1 => repeat (first | exact (Kd.C_below HR0.out HB.out) | (with_reducible refine Kd.C_alloc ?_ _) | (with_reducible refine Kd.C_drewN ?_ _) | (with_reducible refine Kd.C_drew ?_))); (case side2 => exact HC0.out); rintro e w' ⟨rfl, ⟨nd, rfl⟩⟩; (try first | exact aZ1 | exact aZ2)))
            repeat (go_quiet (first | (go_at_call 20; (with_reducible refine (spec_l2Deep.calls kj33 _ _ l0 x4_2 t153 _ ?side1 ?side2 A45.out).mono ?_); (case side1 => repeat (first | exact (Kd.C_below HR0.out HB.out) | (with_reducible refine Kd.C_alloc ?_ _) | (with_reducible refine Kd.C_drewN ?_ _) | (with_reducible refine Kd.C_drew ?_))); (case side2 => exact HC0.out); rintro e w' ⟨rfl, ⟨nd, rfl⟩⟩; (try first | exact aZ1 | exact aZ2))); try go_wp2_with (first | (go_at_call 20; (with_reducible refine (spec_l2Deep.calls kj33 _ _ l0 x4_2 t153 _ ?side1 ?side2 A45.out).mono ?_); (case side1 => repeat (first | exact (Kd.C_below HR0.out HB.out) | (with_reducible refine Kd.C_alloc ?_ _) | (with_reducible refine Kd.C_drewN ?_ _) | (with_reducible refine Kd.C_drew ?_))); (case side2 => exact HC0.out); rintro e w' ⟨rfl, ⟨nd, rfl⟩⟩; (try first | exact aZ1 | exact aZ2))))
            go_ret
            exact ⟨by first | rfl | (simp only [aX1, aX2]; rfl) | (simp [*] <;> rfl), aE⟩
           rw [if_neg c46] at H
           have c46b0 : decide (20 ≤ t153) = false := decide_eq_false c46
           clear c46
           by_cases c47 : ((rd_T39 l0 x4_2).f1).toList = ([] : List UInt8)
           rotate_left
           ·rw [if_neg c47] at H
            have c47b0 : (((rd_T39 l0 x4_2).f1).toList == ([] : List UInt8)) = false := beq_eq_false_iff_ne.mpr c47
            have c47b1 : (((rd_T39 l0 x4_2).f1).toList != ([] : List UInt8)) = true := bne_iff_ne.mpr c47
            have c47b2 : (((rd_T39 l0 x4_2).f1)).toList.isEmpty = false := by (first | exact (List.isEmpty_iff.mpr (eq_of_beq c47b0)) | exact (Bool.eq_false_iff.mpr (fun h_ => by rw [List.isEmpty_iff.mp h_] at c47b0; cases c47b0)))
            by_cases c65 : ((rd_T39 l0 x4_2).f2).toList = ([] : List UInt8)
            rotate_left
            ·rw [if_neg c65] at H
             have c65b0 : (((rd_T39 l0 x4_2).f2).toList == ([] : List UInt8)) = false := beq_eq_false_iff_ne.mpr c65
             have c65b1 : (((rd_T39 l0 x4_2).f2).toList != ([] : List UInt8)) = true := bne_iff_ne.mpr c65
             have c65b2 : (((rd_T39 l0 x4_2).f2)).toList.isEmpty = false := by (first | exact (List.isEmpty_iff.mpr (eq_of_beq c65b0)) | exact (Bool.eq_false_iff.mpr (fun h_ => by rw [List.isEmpty_iff.mp h_] at c65b0; cases c65b0)))
             obtain rfl := Option.some.inj H
             go_wp2_with (first | (go_at_call 20; (with_reducible refine (spec_l2Deep.calls kj33 _ _ l0 x4_2 t153 _ ?side1 ?side2 A45.out).mono ?_); (case side1 => repeat (first | exact (Kd.C_below HR0.out HB.out) | (with_reducible refine Kd.C_alloc ?_ _) | (with_reducible refine Kd.C_drewN ?_ _) | (with_reducible refine Kd.C_drew ?_))); (case side2 => exact HC0.out); rintro e w' ⟨rfl, ⟨nd, rfl⟩⟩; (try first | exact aZ1 | exact aZ2); have hcz75_0 : wc.cell? ⟨gb147, 0, none⟩ = some (.int .i64 ((rd_T39 l0 x4_2).f0)) := (blk_cell BK147.out 0).trans rfl; have hcz75_1 : wc.cell? ⟨gb147, 1, none⟩ = some (.string ((rd_T39 l0 x4_2).f1)) := (blk_cell BK147.out 1).trans rfl; have hcz75_2 : wc.cell? ⟨gb147, 2, none⟩ = some (.string ((rd_T39 l0 x4_2).f2)) := (blk_cell BK147.out 2).trans rfl; have hcz75_3 : wc.cell? ⟨gb147, 3, none⟩ = some (.slice A146_3 ((rd_T39 l0 x4_2).f3).length c146_3) := (blk_cell BK147.out 3).trans rfl; have hfz75_0 := blk_frozen BK147.out 0; have hfz75_1 := blk_frozen BK147.out 1; have hfz75_2 := blk_frozen BK147.out 2; have hfz75_3 := blk_frozen BK147.out 3))
             repeat (go_quiet (first | (go_at_call 20; (with_reducible refine (spec_l2Deep.calls kj33 _ _ l0 x4_2 t153 _ ?side1 ?side2 A45.out).mono ?_); (case side1 => repeat (first | exact (Kd.C_below HR0.out HB.out) | (with_reducible refine Kd.C_alloc ?_ _) | (with_reducible refine Kd.C_drewN ?_ _) | (with_reducible refine Kd.C_drew ?_))); (case side2 => exact HC0.out); rintro e w' ⟨rfl, ⟨nd, rfl⟩⟩; (try first | exact aZ1 | exact aZ2); have hcz75_0 : wc.cell? ⟨gb147, 0, none⟩ = some (.int .i64 ((rd_T39 l0 x4_2).f0)) := (blk_cell BK147.out 0).trans rfl; have hcz75_1 : wc.cell? ⟨gb147, 1, none⟩ = some (.string ((rd_T39 l0 x4_2).f1)) := (blk_cell BK147.out 1).trans rfl; have hcz75_2 : wc.cell? ⟨gb147, 2, none⟩ = some (.string ((rd_T39 l0 x4_2).f2)) := (blk_cell BK147.out 2).trans rfl; have hcz75_3 : wc.cell? ⟨gb147, 3, none⟩ = some (.slice A146_3 ((rd_T39 l0 x4_2).f3).length c146_3) := (blk_cell BK147.out 3).trans rfl; have hfz75_0 := blk_frozen BK147.out 0; have hfz75_1 := blk_frozen BK147.out 1; have hfz75_2 := blk_frozen BK147.out 2; have hfz75_3 := blk_frozen BK147.out 3)); try go_wp2_with (first | (go_at_call 20; (with_reducible refine (spec_l2Deep.calls kj33 _ _ l0 x4_2 t153 _ ?side1 ?side2 A45.out).mono ?_); (case side1 => repeat (first | exact (Kd.C_below HR0.out HB.out) | (with_reducible refine Kd.C_alloc ?_ _) | (with_reducible refine Kd.C_drewN ?_ _) | (with_reducible refine Kd.C_drew ?_))); (case side2 => exact HC0.out); rintro e w' ⟨rfl, ⟨nd, rfl⟩⟩; (try first | exact aZ1 | exact aZ2); have hcz75_0 : wc.cell? ⟨gb147, 0, none⟩ = some (.int .i64 ((rd_T39 l0 x4_2).f0)) := (blk_cell BK147.out 0).trans rfl; have hcz75_1 : wc.cell? ⟨gb147, 1, none⟩ = some (.string ((rd_T39 l0 x4_2).f1)) := (blk_cell BK147.out 1).trans rfl; have hcz75_2 : wc.cell? ⟨gb147, 2, none⟩ = some (.string ((rd_T39 l0 x4_2).f2)) := (blk_cell BK147.out 2).trans rfl; have hcz75_3 : wc.cell? ⟨gb147, 3, none⟩ = some (.slice A146_3 ((rd_T39 l0 x4_2).f3).length c146_3) := (blk_cell BK147.out 3).trans rfl; have hfz75_0 := blk_frozen BK147.out 0; have hfz75_1 := blk_frozen BK147.out 1; have hfz75_2 := blk_frozen BK147.out 2; have hfz75_3 := blk_frozen BK147.out 3)))
             go_ret
             exact ⟨by first | rfl | (simp only [aX1, aX2]; rfl) | (simp [*] <;> rfl), aE⟩
            rw [if_pos c65] at H
            have c65b0 : (((rd_T39 l0 x4_2).f2).toList == ([] : List UInt8)) = true := beq_iff_eq.mpr c65
            have c65b1 : (((rd_T39 l0 x4_2).f2).toList != ([] : List UInt8)) = false := bne_eq_false_iff_eq.mpr c65
            have c65b2 : (((rd_T39 l0 x4_2).f2)).toList.isEmpty = true := by (first | exact (List.isEmpty_iff.mpr (eq_of_beq c65b0)) | exact (Bool.eq_false_iff.mpr (fun h_ => by rw [List.isEmpty_iff.mp h_] at c65b0; cases c65b0)))
            clear c65
            replace H := Option.bind_eq_some_iff.mp H
            obtain ⟨t157, A660, H⟩ := H
            replace H : (if t157 = true then ((spec_l2Attrs.f kj33 ((rd_T39 l0 x4_2).f3)).bind fun t158 => (if t158 = true then (spec_DocOk.l0 kj33 l0 x3_6 (wrap64 (x4_2 + 1))) else (some false))) else (some false)) = some r := H
            have A66 := Aside0.mk A660
            clear A660
            by_cases c67 : t157 = true
            rotate_left
            ·replace c67 := Bool.eq_false_iff.mpr c67
             subst c67
             have H1 : (some false) = some r := by rw [if_neg (show ¬ (false = true) by decide)] at H; exact H
             clear H
             have H := H1
             clear H1
             obtain rfl := Option.some.inj H
             go_wp2_with (first | (go_at_call 20; (with_reducible refine (spec_l2Deep.calls kj33 _ _ l0 x4_2 t153 _ ?side1 ?side2 A45.out).mono ?_); (case side1 => repeat (first | exact (Kd.C_below HR0.out HB.out) | (with_reducible refine Kd.C_alloc ?_ _) | (with_reducible refine Kd.C_drewN ?_ _) | (with_reducible refine Kd.C_drew ?_))); (case side2 => exact HC0.out); rintro e w' ⟨rfl, ⟨nd, rfl⟩⟩; (try first | exact aZ1 | exact aZ2); have hcz74_0 : wc.cell? ⟨gb147, 0, none⟩ = some (.int .i64 ((rd_T39 l0 x4_2).f0)) := (blk_cell BK147.out 0).trans rfl; have hcz74_1 : wc.cell? ⟨gb147, 1, none⟩ = some (.string ((rd_T39 l0 x4_2).f1)) := (blk_cell BK147.out 1).trans rfl; have hcz74_2 : wc.cell? ⟨gb147, 2, none⟩ = some (.string ((rd_T39 l0 x4_2).f2)) := (blk_cell BK147.out 2).trans rfl; have hcz74_3 : wc.cell? ⟨gb147, 3, none⟩ = some (.slice A146_3 ((rd_T39 l0 x4_2).f3).length c146_3) := (blk_cell BK147.out 3).trans rfl; have hfz74_0 := blk_frozen BK147.out 0; have hfz74_1 := blk_frozen BK147.out 1; have hfz74_2 := blk_frozen BK147.out 2; have hfz74_3 := blk_frozen BK147.out 3) | (go_at_call 22; (with_reducible refine (spec_l1Qual.calls kj33 ((rd_T39 l0 x4_2).f1) false _ A66.out).mono ?_); rintro e w' ⟨rfl, ⟨nd, rfl⟩⟩; (try first | exact aZ1 | exact aZ2)))
             repeat (go_quiet (first | (go_at_call 20; (with_reducible refine (spec_l2Deep.calls kj33 _ _ l0 x4_2 t153 _ ?side1 ?side2 A45.out).mono ?_); (case side1 => repeat (first | exact (Kd.C_below HR0.out HB.out) | (with_reducible refine Kd.C_alloc ?_ _) | (with_reducible refine Kd.C_drewN ?_ _) | (with_reducible refine Kd.C_drew ?_))); (case side2 => exact HC0.out); rintro e w' ⟨rfl, ⟨nd, rfl⟩⟩; (try first | exact aZ1 | exact aZ2); have hcz74_0 : wc.cell? ⟨gb147, 0, none⟩ = some (.int .i64 ((rd_T39 l0 x4_2).f0)) := (blk_cell BK147.out 0).trans rfl; have hcz74_1 : wc.cell? ⟨gb147, 1, none⟩ = some (.string ((rd_T39 l0 x4_2).f1)) := (blk_cell BK147.out 1).trans rfl; have hcz74_2 : wc.cell? ⟨gb147, 2, none⟩ = some (.string ((rd_T39 l0 x4_2).f2)) := (blk_cell BK147.out 2).trans rfl; have hcz74_3 : wc.cell? ⟨gb147, 3, none⟩ = some (.slice A146_3 ((rd_T39 l0 x4_2).f3).length c146_3) := (blk_cell BK147.out 3).trans rfl; have hfz74_0 := blk_frozen BK147.out 0; have hfz74_1 := blk_frozen BK147.out 1; have hfz74_2 := blk_frozen BK147.out 2; have hfz74_3 := blk_frozen BK147.out 3) | (go_at_call 22; (with_reducible refine (spec_l1Qual.calls kj33 ((rd_T39 l0 x4_2).f1) false _ A66.out).mono ?_); rintro e w' ⟨rfl, ⟨nd, rfl⟩⟩; (try first | exact aZ1 | exact aZ2))); try go_wp2_with (first | (go_at_call 20; (with_reducible refine (spec_l2Deep.calls kj33 _ _ l0 x4_2 t153 _ ?side1 ?side2 A45.out).mono ?_); (case side1 => repeat (first | exact (Kd.C_below HR0.out HB.out) | (with_reducible refine Kd.C_alloc ?_ _) | (with_reducible refine Kd.C_drewN ?_ _) | (with_reducible refine Kd.C_drew ?_))); (case side2 => exact HC0.out); rintro e w' ⟨rfl, ⟨nd, rfl⟩⟩; (try first | exact aZ1 | exact aZ2); have hcz74_0 : wc.cell? ⟨gb147, 0, none⟩ = some (.int .i64 ((rd_T39 l0 x4_2).f0)) := (blk_cell BK147.out 0).trans rfl; have hcz74_1 : wc.cell? ⟨gb147, 1, none⟩ = some (.string ((rd_T39 l0 x4_2).f1)) := (blk_cell BK147.out 1).trans rfl; have hcz74_2 : wc.cell? ⟨gb147, 2, none⟩ = some (.string ((rd_T39 l0 x4_2).f2)) := (blk_cell BK147.out 2).trans rfl; have hcz74_3 : wc.cell? ⟨gb147, 3, none⟩ = some (.slice A146_3 ((rd_T39 l0 x4_2).f3).length c146_3) := (blk_cell BK147.out 3).trans rfl; have hfz74_0 := blk_frozen BK147.out 0; have hfz74_1 := blk_frozen BK147.out 1; have hfz74_2 := blk_frozen BK147.out 2; have hfz74_3 := blk_frozen BK147.out 3) | (go_at_call 22; (with_reducible refine (spec_l1Qual.calls kj33 ((rd_T39 l0 x4_2).f1) false _ A66.out).mono ?_); rintro e w' ⟨rfl, ⟨nd, rfl⟩⟩; (try first | exact aZ1 | exact aZ2))))
             go_ret
             exact ⟨by first | rfl | (simp only [aX1, aX2]; rfl) | (simp [*] <;> rfl), aE⟩
            subst c67
            have H1 : ((spec_l2Attrs.f kj33 ((rd_T39 l0 x4_2).f3)).bind fun t158 => (if t158 = true then (spec_DocOk.l0 kj33 l0 x3_6 (wrap64 (x4_2 + 1))) else (some false))) = some r := by rw [if_pos rfl] at H; exact H
            clear H
            have H := H1
            clear H1
            replace H := Option.bind_eq_some_iff.mp H
            obtain ⟨t158, A680, H⟩ := H
            replace H : (if t158 = true then (spec_DocOk.l0 kj33 l0 x3_6 (wrap64 (x4_2 + 1))) else (some false)) = some r := H
            have A68 := Aside0.mk A680
            clear A680
            by_cases c69 : t158 = true
            rotate_left
            ·replace c69 := Bool.eq_false_iff.mpr c69
             subst c69
             have H1 : (some false) = some r := by rw [if_neg (show ¬ (false = true) by decide)] at H; exact H
             clear H
             have H := H1
             clear H1
             obtain rfl := Option.some.inj H
             go_wp2_with (first | (go_at_call 20; (with_reducible refine (spec_l2Deep.calls kj33 _ _ l0 x4_2 t153 _ ?side1 ?side2 A45.out).mono ?_); (case side1 => repeat (first | exact (Kd.C_below HR0.out HB.out) | (with_reducible refine Kd.C_alloc ?_ _) | (with_reducible refine Kd.C_drewN ?_ _) | (with_reducible refine Kd.C_drew ?_))); (case side2 => exact HC0.out); rintro e w' ⟨rfl, ⟨nd, rfl⟩⟩; (try first | exact aZ1 | exact aZ2); have hcz72_0 : wc.cell? ⟨gb147, 0, none⟩ = some (.int .i64 ((rd_T39 l0 x4_2).f0)) := (blk_cell BK147.out 0).trans rfl; have hcz72_1 : wc.cell? ⟨gb147, 1, none⟩ = some (.string ((rd_T39 l0 x4_2).f1)) := (blk_cell BK147.out 1).trans rfl; have hcz72_2 : wc.cell? ⟨gb147, 2, none⟩ = some (.string ((rd_T39 l0 x4_2).f2)) := (blk_cell BK147.out 2).trans rfl; have hcz72_3 : wc.cell? ⟨gb147, 3, none⟩ = some (.slice A146_3 ((rd_T39 l0 x4_2).f3).length c146_3) := (blk_cell BK147.out 3).trans rfl; have hfz72_0 := blk_frozen BK147.out 0; have hfz72_1 := blk_frozen BK147.out 1; have hfz72_2 := blk_frozen BK147.out 2; have hfz72_3 := blk_frozen BK147.out 3) | (go_at_call 22; (with_reducible refine (spec_l1Qual.calls kj33 ((rd_T39 l0 x4_2).f1) true _ A66.out).mono ?_); rintro e w' ⟨rfl, ⟨nd, rfl⟩⟩; (try first | exact aZ1 | exact aZ2)) | (go_at_call 23; (with_reducible refine (spec_l2Attrs.calls kj33 _ _ ((rd_T39 l0 x4_2).f3) false _ ?side1 ?side2 A68.out).mono ?_); (case side1 => repeat (first | exact (Kd.C_below HR146_3.out aE) | (with_reducible refine Kd.C_alloc ?_ _) | (with_reducible refine Kd.C_drewN ?_ _) | (with_reducible refine Kd.C_drew ?_))); (case side2 => exact HC146_3.out); rintro e w73 ⟨rfl, hb⟩; have n0_ := Aside0.mk (blk_below (g := gb147) (o := .cells #[.int .i64 ((rd_T39 l0 x4_2).f0), .string ((rd_T39 l0 x4_2).f1), .string ((rd_T39 l0 x4_2).f2), .slice A146_3 ((rd_T39 l0 x4_2).f3).length c146_3] 39 (0, 0)) (aP BK147.out) hb); have n1_ := Aside0.mk (below_step aE hb); clear BK147; clear HB; have BK147 := n0_; have HB := n1_; clear n0_ n1_; (try clear hb); (try clear hb2); (try clear hk); (try clear hi)))
             repeat (go_quiet (first | (go_at_call 20; (with_reducible refine (spec_l2Deep.calls kj33 _ _ l0 x4_2 t153 _ ?side1 ?side2 A45.out).mono ?_); (case side1 => repeat (first | exact (Kd.C_below HR0.out HB.out) | (with_reducible refine Kd.C_alloc ?_ _) | (with_reducible refine Kd.C_drewN ?_ _) | (with_reducible refine Kd.C_drew ?_))); (case side2 => exact HC0.out); rintro e w' ⟨rfl, ⟨nd, rfl⟩⟩; (try first | exact aZ1 | exact aZ2); have hcz72_0 : wc.cell? ⟨gb147, 0, none⟩ = some (.int .i64 ((rd_T39 l0 x4_2).f0)) := (blk_cell BK147.out 0).trans rfl; have hcz72_1 : wc.cell? ⟨gb147, 1, none⟩ = some (.string ((rd_T39 l0 x4_2).f1)) := (blk_cell BK147.out 1).trans rfl; have hcz72_2 : wc.cell? ⟨gb147, 2, none⟩ = some (.string ((rd_T39 l0 x4_2).f2)) := (blk_cell BK147.out 2).trans rfl; have hcz72_3 : wc.cell? ⟨gb147, 3, none⟩ = some (.slice A146_3 ((rd_T39 l0 x4_2).f3).length c146_3) := (blk_cell BK147.out 3).trans rfl; have hfz72_0 := blk_frozen BK147.out 0; have hfz72_1 := blk_frozen BK147.out 1; have hfz72_2 := blk_frozen BK147.out 2; have hfz72_3 := blk_frozen BK147.out 3) | (go_at_call 22; (with_reducible refine (spec_l1Qual.calls kj33 ((rd_T39 l0 x4_2).f1) true _ A66.out).mono ?_); rintro e w' ⟨rfl, ⟨nd, rfl⟩⟩; (try first | exact aZ1 | exact aZ2)) | (go_at_call 23; (with_reducible refine (spec_l2Attrs.calls kj33 _ _ ((rd_T39 l0 x4_2).f3) false _ ?side1 ?side2 A68.out).mono ?_); (case side1 => repeat (first | exact (Kd.C_below HR146_3.out aE) | (with_reducible refine Kd.C_alloc ?_ _) | (with_reducible refine Kd.C_drewN ?_ _) | (with_reducible refine Kd.C_drew ?_))); (case side2 => exact HC146_3.out); rintro e w73 ⟨rfl, hb⟩; have n0_ := Aside0.mk (blk_below (g := gb147) (o := .cells #[.int .i64 ((rd_T39 l0 x4_2).f0), .string ((rd_T39 l0 x4_2).f1), .string ((rd_T39 l0 x4_2).f2), .slice A146_3 ((rd_T39 l0 x4_2).f3).length c146_3] 39 (0, 0)) (aP BK147.out) hb); have n1_ := Aside0.mk (below_step aE hb); clear BK147; clear HB; have BK147 := n0_; have HB := n1_; clear n0_ n1_; (try clear hb); (try clear hb2); (try clear hk); (try clear hi))); try go_wp2_with (first | (go_at_call 20; (with_reducible refine (spec_l2Deep.calls kj33 _ _ l0 x4_2 t153 _ ?side1 ?side2 A45.out).mono ?_); (case side1 => repeat (first | exact (Kd.C_below HR0.out HB.out) | (with_reducible refine Kd.C_alloc ?_ _) | (with_reducible refine Kd.C_drewN ?_ _) | (with_reducible refine Kd.C_drew ?_))); (case side2 => exact HC0.out); rintro e w' ⟨rfl, ⟨nd, rfl⟩⟩; (try first | exact aZ1 | exact aZ2); have hcz72_0 : wc.cell? ⟨gb147, 0, none⟩ = some (.int .i64 ((rd_T39 l0 x4_2).f0)) := (blk_cell BK147.out 0).trans rfl; have hcz72_1 : wc.cell? ⟨gb147, 1, none⟩ = some (.string ((rd_T39 l0 x4_2).f1)) := (blk_cell BK147.out 1).trans rfl; have hcz72_2 : wc.cell? ⟨gb147, 2, none⟩ = some (.string ((rd_T39 l0 x4_2).f2)) := (blk_cell BK147.out 2).trans rfl; have hcz72_3 : wc.cell? ⟨gb147, 3, none⟩ = some (.slice A146_3 ((rd_T39 l0 x4_2).f3).length c146_3) := (blk_cell BK147.out 3).trans rfl; have hfz72_0 := blk_frozen BK147.out 0; have hfz72_1 := blk_frozen BK147.out 1; have hfz72_2 := blk_frozen BK147.out 2; have hfz72_3 := blk_frozen BK147.out 3) | (go_at_call 22; (with_reducible refine (spec_l1Qual.calls kj33 ((rd_T39 l0 x4_2).f1) true _ A66.out).mono ?_); rintro e w' ⟨rfl, ⟨nd, rfl⟩⟩; (try first | exact aZ1 | exact aZ2)) | (go_at_call 23; (with_reducible refine (spec_l2Attrs.calls kj33 _ _ ((rd_T39 l0 x4_2).f3) false _ ?side1 ?side2 A68.out).mono ?_); (case side1 => repeat (first | exact (Kd.C_below HR146_3.out aE) | (with_reducible refine Kd.C_alloc ?_ _) | (with_reducible refine Kd.C_drewN ?_ _) | (with_reducible refine Kd.C_drew ?_))); (case side2 => exact HC146_3.out); rintro e w73 ⟨rfl, hb⟩; have n0_ := Aside0.mk (blk_below (g := gb147) (o := .cells #[.int .i64 ((rd_T39 l0 x4_2).f0), .string ((rd_T39 l0 x4_2).f1), .string ((rd_T39 l0 x4_2).f2), .slice A146_3 ((rd_T39 l0 x4_2).f3).length c146_3] 39 (0, 0)) (aP BK147.out) hb); have n1_ := Aside0.mk (below_step aE hb); clear BK147; clear HB; have BK147 := n0_; have HB := n1_; clear n0_ n1_; (try clear hb); (try clear hb2); (try clear hk); (try clear hi))))
             go_ret
             exact ⟨by first | rfl | (simp only [aX1, aX2]; rfl) | (simp [*] <;> rfl), aE⟩
            subst c69
            have H1 : (spec_DocOk.l0 kj33 l0 x3_6 (wrap64 (x4_2 + 1))) = some r := by rw [if_pos rfl] at H; exact H
            clear H
            have H := H1
            clear H1
            have H' := Aside0.mk H
            clear H
            go_wp2_with (first | (go_at_call 20; (with_reducible refine (spec_l2Deep.calls kj33 _ _ l0 x4_2 t153 _ ?side1 ?side2 A45.out).mono ?_); (case side1 => repeat (first | exact (Kd.C_below HR0.out HB.out) | (with_reducible refine Kd.C_alloc ?_ _) | (with_reducible refine Kd.C_drewN ?_ _) | (with_reducible refine Kd.C_drew ?_))); (case side2 => exact HC0.out); rintro e w' ⟨rfl, ⟨nd, rfl⟩⟩; (try first | exact aZ1 | exact aZ2); have hcz70_0 : wc.cell? ⟨gb147, 0, none⟩ = some (.int .i64 ((rd_T39 l0 x4_2).f0)) := (blk_cell BK147.out 0).trans rfl; have hcz70_1 : wc.cell? ⟨gb147, 1, none⟩ = some (.string ((rd_T39 l0 x4_2).f1)) := (blk_cell BK147.out 1).trans rfl; have hcz70_2 : wc.cell? ⟨gb147, 2, none⟩ = some (.string ((rd_T39 l0 x4_2).f2)) := (blk_cell BK147.out 2).trans rfl; have hcz70_3 : wc.cell? ⟨gb147, 3, none⟩ = some (.slice A146_3 ((rd_T39 l0 x4_2).f3).length c146_3) := (blk_cell BK147.out 3).trans rfl; have hfz70_0 := blk_frozen BK147.out 0; have hfz70_1 := blk_frozen BK147.out 1; have hfz70_2 := blk_frozen BK147.out 2; have hfz70_3 := blk_frozen BK147.out 3) | (go_at_call 22; (with_reducible refine (spec_l1Qual.calls kj33 ((rd_T39 l0 x4_2).f1) true _ A66.out).mono ?_); rintro e w' ⟨rfl, ⟨nd, rfl⟩⟩; (try first | exact aZ1 | exact aZ2)) | (go_at_call 23; (with_reducible refine (spec_l2Attrs.calls kj33 _ _ ((rd_T39 l0 x4_2).f3) true _ ?side1 ?side2 A68.out).mono ?_); (case side1 => repeat (first | exact (Kd.C_below HR146_3.out aE) | (with_reducible refine Kd.C_alloc ?_ _) | (with_reducible refine Kd.C_drewN ?_ _) | (with_reducible refine Kd.C_drew ?_))); (case side2 => exact HC146_3.out); rintro e w71 ⟨rfl, hb⟩; have n0_ := Aside0.mk (blk_below (g := gb147) (o := .cells #[.int .i64 ((rd_T39 l0 x4_2).f0), .string ((rd_T39 l0 x4_2).f1), .string ((rd_T39 l0 x4_2).f2), .slice A146_3 ((rd_T39 l0 x4_2).f3).length c146_3] 39 (0, 0)) (aP BK147.out) hb); have n1_ := Aside0.mk (below_step aE hb); clear BK147; clear HB; have BK147 := n0_; have HB := n1_; clear n0_ n1_; (try clear hb); (try clear hb2); (try clear hk); (try clear hi)))
            repeat (go_quiet (first | (go_at_call 20; (with_reducible refine (spec_l2Deep.calls kj33 _ _ l0 x4_2 t153 _ ?side1 ?side2 A45.out).mono ?_); (case side1 => repeat (first | exact (Kd.C_below HR0.out HB.out) | (with_reducible refine Kd.C_alloc ?_ _) | (with_reducible refine Kd.C_drewN ?_ _) | (with_reducible refine Kd.C_drew ?_))); (case side2 => exact HC0.out); rintro e w' ⟨rfl, ⟨nd, rfl⟩⟩; (try first | exact aZ1 | exact aZ2); have hcz70_0 : wc.cell? ⟨gb147, 0, none⟩ = some (.int .i64 ((rd_T39 l0 x4_2).f0)) := (blk_cell BK147.out 0).trans rfl; have hcz70_1 : wc.cell? ⟨gb147, 1, none⟩ = some (.string ((rd_T39 l0 x4_2).f1)) := (blk_cell BK147.out 1).trans rfl; have hcz70_2 : wc.cell? ⟨gb147, 2, none⟩ = some (.string ((rd_T39 l0 x4_2).f2)) := (blk_cell BK147.out 2).trans rfl; have hcz70_3 : wc.cell? ⟨gb147, 3, none⟩ = some (.slice A146_3 ((rd_T39 l0 x4_2).f3).length c146_3) := (blk_cell BK147.out 3).trans rfl; have hfz70_0 := blk_frozen BK147.out 0; have hfz70_1 := blk_frozen BK147.out 1; have hfz70_2 := blk_frozen BK147.out 2; have hfz70_3 := blk_frozen BK147.out 3) | (go_at_call 22; (with_reducible refine (spec_l1Qual.calls kj33 ((rd_T39 l0 x4_2).f1) true _ A66.out).mono ?_); rintro e w' ⟨rfl, ⟨nd, rfl⟩⟩; (try first | exact aZ1 | exact aZ2)) | (go_at_call 23; (with_reducible refine (spec_l2Attrs.calls kj33 _ _ ((rd_T39 l0 x4_2).f3) true _ ?side1 ?side2 A68.out).mono ?_); (case side1 => repeat (first | exact (Kd.C_below HR146_3.out aE) | (with_reducible refine Kd.C_alloc ?_ _) | (with_reducible refine Kd.C_drewN ?_ _) | (with_reducible refine Kd.C_drew ?_))); (case side2 => exact HC146_3.out); rintro e w71 ⟨rfl, hb⟩; have n0_ := Aside0.mk (blk_below (g := gb147) (o := .cells #[.int .i64 ((rd_T39 l0 x4_2).f0), .string ((rd_T39 l0 x4_2).f1), .string ((rd_T39 l0 x4_2).f2), .slice A146_3 ((rd_T39 l0 x4_2).f3).length c146_3] 39 (0, 0)) (aP BK147.out) hb); have n1_ := Aside0.mk (below_step aE hb); clear BK147; clear HB; have BK147 := n0_; have HB := n1_; clear n0_ n1_; (try clear hb); (try clear hb2); (try clear hk); (try clear hi))); try go_wp2_with (first | (go_at_call 20; (with_reducible refine (spec_l2Deep.calls kj33 _ _ l0 x4_2 t153 _ ?side1 ?side2 A45.out).mono ?_); (case side1 => repeat (first | exact (Kd.C_below HR0.out HB.out) | (with_reducible refine Kd.C_alloc ?_ _) | (with_reducible refine Kd.C_drewN ?_ _) | (with_reducible refine Kd.C_drew ?_))); (case side2 => exact HC0.out); rintro e w' ⟨rfl, ⟨nd, rfl⟩⟩; (try first | exact aZ1 | exact aZ2); have hcz70_0 : wc.cell? ⟨gb147, 0, none⟩ = some (.int .i64 ((rd_T39 l0 x4_2).f0)) := (blk_cell BK147.out 0).trans rfl; have hcz70_1 : wc.cell? ⟨gb147, 1, none⟩ = some (.string ((rd_T39 l0 x4_2).f1)) := (blk_cell BK147.out 1).trans rfl; have hcz70_2 : wc.cell? ⟨gb147, 2, none⟩ = some (.string ((rd_T39 l0 x4_2).f2)) := (blk_cell BK147.out 2).trans rfl; have hcz70_3 : wc.cell? ⟨gb147, 3, none⟩ = some (.slice A146_3 ((rd_T39 l0 x4_2).f3).length c146_3) := (blk_cell BK147.out 3).trans rfl; have hfz70_0 := blk_frozen BK147.out 0; have hfz70_1 := blk_frozen BK147.out 1; have hfz70_2 := blk_frozen BK147.out 2; have hfz70_3 := blk_frozen BK147.out 3) | (go_at_call 22; (with_reducible refine (spec_l1Qual.calls kj33 ((rd_T39 l0 x4_2).f1) true _ A66.out).mono ?_); rintro e w' ⟨rfl, ⟨nd, rfl⟩⟩; (try first | exact aZ1 | exact aZ2)) | (go_at_call 23; (with_reducible refine (spec_l2Attrs.calls kj33 _ _ ((rd_T39 l0 x4_2).f3) true _ ?side1 ?side2 A68.out).mono ?_); (case side1 => repeat (first | exact (Kd.C_below HR146_3.out aE) | (with_reducible refine Kd.C_alloc ?_ _) | (with_reducible refine Kd.C_drewN ?_ _) | (with_reducible refine Kd.C_drew ?_))); (case side2 => exact HC146_3.out); rintro e w71 ⟨rfl, hb⟩; have n0_ := Aside0.mk (blk_below (g := gb147) (o := .cells #[.int .i64 ((rd_T39 l0 x4_2).f0), .string ((rd_T39 l0 x4_2).f1), .string ((rd_T39 l0 x4_2).f2), .slice A146_3 ((rd_T39 l0 x4_2).f3).length c146_3] 39 (0, 0)) (aP BK147.out) hb); have n1_ := Aside0.mk (below_step aE hb); clear BK147; clear HB; have BK147 := n0_; have HB := n1_; clear n0_ n1_; (try clear hb); (try clear hb2); (try clear hk); (try clear hi))))
            go_roundg kj33
            case measure => have := HJ1.out; have := HK2.out; have := HJ6.out; have := HJ18.out; have := HJ33.out; omega
            case rel => exact ⟨(x3_6), (wrap64 (x4_2 + 1)), aR, aR, H', ⟨by have := HJ1.out; have := HK2.out; have := HJ6.out; have := HJ18.out; have := HJ33.out; omega⟩, ⟨aE⟩⟩
           rw [if_pos c47] at H
           have c47b0 : (((rd_T39 l0 x4_2).f1).toList == ([] : List UInt8)) = true := beq_iff_eq.mpr c47
           have c47b1 : (((rd_T39 l0 x4_2).f1).toList != ([] : List UInt8)) = false := bne_eq_false_iff_eq.mpr c47
           have c47b2 : (((rd_T39 l0 x4_2).f1)).toList.isEmpty = true := by (first | exact (List.isEmpty_iff.mpr (eq_of_beq c47b0)) | exact (Bool.eq_false_iff.mpr (fun h_ => by rw [List.isEmpty_iff.mp h_] at c47b0; cases c47b0)))
           clear c47
           have HC48 := Aside0.mk H
           clear H
           go_upto_region 29 with (first | (go_at_call 20; (with_reducible refine (spec_l2Deep.calls kj33 _ _ l0 x4_2 t153 _ ?side1 ?side2 A45.out).mono ?_); (case side1 => repeat (first | exact (Kd.C_below HR0.out HB.out) | (with_reducible refine Kd.C_alloc ?_ _) | (with_reducible refine Kd.C_drewN ?_ _) | (with_reducible refine Kd.C_drew ?_))); (case side2 => exact HC0.out); rintro e w' ⟨rfl, ⟨nd, rfl⟩⟩; (try first | exact aZ1 | exact aZ2); have hcz49_0 : wc.cell? ⟨gb147, 0, none⟩ = some (.int .i64 ((rd_T39 l0 x4_2).f0)) := (blk_cell BK147.out 0).trans rfl; have hcz49_1 : wc.cell? ⟨gb147, 1, none⟩ = some (.string ((rd_T39 l0 x4_2).f1)) := (blk_cell BK147.out 1).trans rfl; have hcz49_2 : wc.cell? ⟨gb147, 2, none⟩ = some (.string ((rd_T39 l0 x4_2).f2)) := (blk_cell BK147.out 2).trans rfl; have hcz49_3 : wc.cell? ⟨gb147, 3, none⟩ = some (.slice A146_3 ((rd_T39 l0 x4_2).f3).length c146_3) := (blk_cell BK147.out 3).trans rfl; have hfz49_0 := blk_frozen BK147.out 0; have hfz49_1 := blk_frozen BK147.out 1; have hfz49_2 := blk_frozen BK147.out 2; have hfz49_3 := blk_frozen BK147.out 3))
           repeat (go_quiet (first | (go_at_call 20; (with_reducible refine (spec_l2Deep.calls kj33 _ _ l0 x4_2 t153 _ ?side1 ?side2 A45.out).mono ?_); (case side1 => repeat (first | exact (Kd.C_below HR0.out HB.out) | (with_reducible refine Kd.C_alloc ?_ _) | (with_reducible refine Kd.C_drewN ?_ _) | (with_reducible refine Kd.C_drew ?_))); (case side2 => exact HC0.out); rintro e w' ⟨rfl, ⟨nd, rfl⟩⟩; (try first | exact aZ1 | exact aZ2); have hcz49_0 : wc.cell? ⟨gb147, 0, none⟩ = some (.int .i64 ((rd_T39 l0 x4_2).f0)) := (blk_cell BK147.out 0).trans rfl; have hcz49_1 : wc.cell? ⟨gb147, 1, none⟩ = some (.string ((rd_T39 l0 x4_2).f1)) := (blk_cell BK147.out 1).trans rfl; have hcz49_2 : wc.cell? ⟨gb147, 2, none⟩ = some (.string ((rd_T39 l0 x4_2).f2)) := (blk_cell BK147.out 2).trans rfl; have hcz49_3 : wc.cell? ⟨gb147, 3, none⟩ = some (.slice A146_3 ((rd_T39 l0 x4_2).f3).length c146_3) := (blk_cell BK147.out 3).trans rfl; have hfz49_0 := blk_frozen BK147.out 0; have hfz49_1 := blk_frozen BK147.out 1; have hfz49_2 := blk_frozen BK147.out 2; have hfz49_3 := blk_frozen BK147.out 3)); go_upto_region 29 with (first | (go_at_call 20; (with_reducible refine (spec_l2Deep.calls kj33 _ _ l0 x4_2 t153 _ ?side1 ?side2 A45.out).mono ?_); (case side1 => repeat (first | exact (Kd.C_below HR0.out HB.out) | (with_reducible refine Kd.C_alloc ?_ _) | (with_reducible refine Kd.C_drewN ?_ _) | (with_reducible refine Kd.C_drew ?_))); (case side2 => exact HC0.out); rintro e w' ⟨rfl, ⟨nd, rfl⟩⟩; (try first | exact aZ1 | exact aZ2); have hcz49_0 : wc.cell? ⟨gb147, 0, none⟩ = some (.int .i64 ((rd_T39 l0 x4_2).f0)) := (blk_cell BK147.out 0).trans rfl; have hcz49_1 : wc.cell? ⟨gb147, 1, none⟩ = some (.string ((rd_T39 l0 x4_2).f1)) := (blk_cell BK147.out 1).trans rfl; have hcz49_2 : wc.cell? ⟨gb147, 2, none⟩ = some (.string ((rd_T39 l0 x4_2).f2)) := (blk_cell BK147.out 2).trans rfl; have hcz49_3 : wc.cell? ⟨gb147, 3, none⟩ = some (.slice A146_3 ((rd_T39 l0 x4_2).f3).length c146_3) := (blk_cell BK147.out 3).trans rfl; have hfz49_0 := blk_frozen BK147.out 0; have hfz49_1 := blk_frozen BK147.out 1; have hfz49_2 := blk_frozen BK147.out 2; have hfz49_3 := blk_frozen BK147.out 3)))
           (try simp only [Act.put, List.setIfInBounds_toArray, List.set_cons_zero, List.set_cons_succ])
           go_cut [130] (fun v130 wc => ∃ (kq : Nat) (x130_47 : Bool), v130 = .bool x130_47 ∧ Aside0 (spec_DocOk.j7 kq l0 x3_6 x4_2 x130_47 ((rd_T39 l0 x4_2).f0) ((rd_T39 l0 x4_2).f1) ((rd_T39 l0 x4_2).f2) ((rd_T39 l0 x4_2).f3) = some r) ∧ Aside0 (kq ≤ kj33) ∧ Aside0 (wc.heap[gb147]? = some (.cells #[.int .i64 ((rd_T39 l0 x4_2).f0), .string ((rd_T39 l0 x4_2).f1), .string ((rd_T39 l0 x4_2).f2), (.slice A146_3 ((rd_T39 l0 x4_2).f3).length c146_3)] 39 (0, 0))) ∧ Aside0 (Below w.heap.size w wc))
           case first =>
            have H := HC48.out
            clear HC48
            by_cases c50 : ((rd_T39 l0 x4_2).f2).toList = ([] : List UInt8)
            ·rw [if_pos c50] at H
             have c50b0 : (((rd_T39 l0 x4_2).f2).toList == ([] : List UInt8)) = true := beq_iff_eq.mpr c50
             have c50b1 : (((rd_T39 l0 x4_2).f2).toList != ([] : List UInt8)) = false := bne_eq_false_iff_eq.mpr c50
             have c50b2 : (((rd_T39 l0 x4_2).f2)).toList.isEmpty = true := by (first | exact (List.isEmpty_iff.mpr (eq_of_beq c50b0)) | exact (Bool.eq_false_iff.mpr (fun h_ => by rw [List.isEmpty_iff.mp h_] at c50b0; cases c50b0)))
             clear c50
             (first | rw [c50b0] | (simp only [i64_w, i32_w]; rw [c50b0]) | rw [c50b2] | skip)
             have H' := Aside0.mk H
             clear H
             have hcz51_0 : wc.cell? ⟨gb147, 0, none⟩ = some (.int .i64 ((rd_T39 l0 x4_2).f0)) := (blk_cell BK147.out 0).trans rfl
             have hcz51_1 : wc.cell? ⟨gb147, 1, none⟩ = some (.string ((rd_T39 l0 x4_2).f1)) := (blk_cell BK147.out 1).trans rfl
             have hcz51_2 : wc.cell? ⟨gb147, 2, none⟩ = some (.string ((rd_T39 l0 x4_2).f2)) := (blk_cell BK147.out 2).trans rfl
             have hcz51_3 : wc.cell? ⟨gb147, 3, none⟩ = some (.slice A146_3 ((rd_T39 l0 x4_2).f3).length c146_3) := (blk_cell BK147.out 3).trans rfl
             have hfz51_0 := blk_frozen BK147.out 0
             have hfz51_1 := blk_frozen BK147.out 1
             have hfz51_2 := blk_frozen BK147.out 2
             have hfz51_3 := blk_frozen BK147.out 3
             go_wp2
             repeat (go_quiet (fail); try go_wp2)
             go_meet
             case rel => exact ⟨_, (true), aR, H', ⟨by have := HJ1.out; have := HK2.out; have := HJ6.out; have := HJ18.out; have := HJ33.out; first | omega | exact Nat.le_refl _⟩, ⟨aP BK147.out⟩, ⟨aE⟩⟩
            rw [if_neg c50] at H
            have c50b0 : (((rd_T39 l0 x4_2).f2).toList == ([] : List UInt8)) = false := beq_eq_false_iff_ne.mpr c50
            have c50b1 : (((rd_T39 l0 x4_2).f2).toList != ([] : List UInt8)) = true := bne_iff_ne.mpr c50
            have c50b2 : (((rd_T39 l0 x4_2).f2)).toList.isEmpty = false := by (first | exact (List.isEmpty_iff.mpr (eq_of_beq c50b0)) | exact (Bool.eq_false_iff.mpr (fun h_ => by rw [List.isEmpty_iff.mp h_] at c50b0; cases c50b0)))
            (first | rw [c50b0] | (simp only [i64_w, i32_w]; rw [c50b0]) | rw [c50b2] | skip)
            by_cases c52 : (((rd_T39 l0 x4_2).f3).length : Int) > 0
            ·rw [if_pos c52] at H
             have c52b0 : decide (0 < (((rd_T39 l0 x4_2).f3).length : Int)) = true := decide_eq_true c52
             have c52b1 : decide (0 < ((rd_T39 l0 x4_2).f3).length) = true := decide_eq_true (by omega)
             clear c52
             have H' := Aside0.mk H
             clear H
             have hcz53_0 : wc.cell? ⟨gb147, 0, none⟩ = some (.int .i64 ((rd_T39 l0 x4_2).f0)) := (blk_cell BK147.out 0).trans rfl
             have hcz53_1 : wc.cell? ⟨gb147, 1, none⟩ = some (.string ((rd_T39 l0 x4_2).f1)) := (blk_cell BK147.out 1).trans rfl
             have hcz53_2 : wc.cell? ⟨gb147, 2, none⟩ = some (.string ((rd_T39 l0 x4_2).f2)) := (blk_cell BK147.out 2).trans rfl
             have hcz53_3 : wc.cell? ⟨gb147, 3, none⟩ = some (.slice A146_3 ((rd_T39 l0 x4_2).f3).length c146_3) := (blk_cell BK147.out 3).trans rfl
             have hfz53_0 := blk_frozen BK147.out 0
             have hfz53_1 := blk_frozen BK147.out 1
             have hfz53_2 := blk_frozen BK147.out 2
             have hfz53_3 := blk_frozen BK147.out 3
             go_wp2
             repeat (go_quiet (fail); try go_wp2)
             go_meet
             case rel => exact ⟨_, (true), aR, H', ⟨by have := HJ1.out; have := HK2.out; have := HJ6.out; have := HJ18.out; have := HJ33.out; first | omega | exact Nat.le_refl _⟩, ⟨aP BK147.out⟩, ⟨aE⟩⟩
            rw [if_neg c52] at H
            have c52b0 : decide (0 < (((rd_T39 l0 x4_2).f3).length : Int)) = false := decide_eq_false c52
            have c52b1 : decide (0 < ((rd_T39 l0 x4_2).f3).length) = false := decide_eq_false (by omega)
            clear c52
            replace H := Option.bind_eq_some_iff.mp H
            obtain ⟨t154, A540, H⟩ := H
            replace H : (spec_DocOk.j7 kj33 l0 x3_6 x4_2 (!t154) ((rd_T39 l0 x4_2).f0) ((rd_T39 l0 x4_2).f1) ((rd_T39 l0 x4_2).f2) ((rd_T39 l0 x4_2).f3)) = some r := H
            have A54 := Aside0.mk A540
            clear A540
            have H' := Aside0.mk H
            clear H
            have hcz55_0 : wc.cell? ⟨gb147, 0, none⟩ = some (.int .i64 ((rd_T39 l0 x4_2).f0)) := (blk_cell BK147.out 0).trans rfl
            have hcz55_1 : wc.cell? ⟨gb147, 1, none⟩ = some (.string ((rd_T39 l0 x4_2).f1)) := (blk_cell BK147.out 1).trans rfl
            have hcz55_2 : wc.cell? ⟨gb147, 2, none⟩ = some (.string ((rd_T39 l0 x4_2).f2)) := (blk_cell BK147.out 2).trans rfl
            have hcz55_3 : wc.cell? ⟨gb147, 3, none⟩ = some (.slice A146_3 ((rd_T39 l0 x4_2).f3).length c146_3) := (blk_cell BK147.out 3).trans rfl
            have hfz55_0 := blk_frozen BK147.out 0
            have hfz55_1 := blk_frozen BK147.out 1
            have hfz55_2 := blk_frozen BK147.out 2
            have hfz55_3 := blk_frozen BK147.out 3
            go_wp2_with (first | (go_at_call 21; (with_reducible refine (spec_l1Text.calls kj33 ((rd_T39 l0 x4_2).f2) t154 _ A54.out).mono ?_); rintro e w56 ⟨rfl, hb⟩; have n0_ := Aside0.mk (blk_below (g := gb147) (o := .cells #[.int .i64 ((rd_T39 l0 x4_2).f0), .string ((rd_T39 l0 x4_2).f1), .string ((rd_T39 l0 x4_2).f2), .slice A146_3 ((rd_T39 l0 x4_2).f3).length c146_3] 39 (0, 0)) (aP BK147.out) hb); have n1_ := Aside0.mk (below_step aE hb); clear BK147; clear HB; have BK147 := n0_; have HB := n1_; clear n0_ n1_; (try clear hb); (try clear hb2); (try clear hk); (try clear hi)))
            repeat (go_quiet (first | (go_at_call 21; (with_reducible refine (spec_l1Text.calls kj33 ((rd_T39 l0 x4_2).f2) t154 _ A54.out).mono ?_); rintro e w56 ⟨rfl, hb⟩; have n0_ := Aside0.mk (blk_below (g := gb147) (o := .cells #[.int .i64 ((rd_T39 l0 x4_2).f0), .string ((rd_T39 l0 x4_2).f1), .string ((rd_T39 l0 x4_2).f2), .slice A146_3 ((rd_T39 l0 x4_2).f3).length c146_3] 39 (0, 0)) (aP BK147.out) hb); have n1_ := Aside0.mk (below_step aE hb); clear BK147; clear HB; have BK147 := n0_; have HB := n1_; clear n0_ n1_; (try clear hb); (try clear hb2); (try clear hk); (try clear hi))); try go_wp2_with (first | (go_at_call 21; (with_reducible refine (spec_l1Text.calls kj33 ((rd_T39 l0 x4_2).f2) t154 _ A54.out).mono ?_); rintro e w56 ⟨rfl, hb⟩; have n0_ := Aside0.mk (blk_below (g := gb147) (o := .cells #[.int .i64 ((rd_T39 l0 x4_2).f0), .string ((rd_T39 l0 x4_2).f1), .string ((rd_T39 l0 x4_2).f2), .slice A146_3 ((rd_T39 l0 x4_2).f3).length c146_3] 39 (0, 0)) (aP BK147.out) hb); have n1_ := Aside0.mk (below_step aE hb); clear BK147; clear HB; have BK147 := n0_; have HB := n1_; clear n0_ n1_; (try clear hb); (try clear hb2); (try clear hk); (try clear hi))))
            go_meet
            case rel => exact ⟨_, (!t154), aR, H', ⟨by have := HJ1.out; have := HK2.out; have := HJ6.out; have := HJ18.out; have := HJ33.out; first | omega | exact Nat.le_refl _⟩, ⟨aP BK147.out⟩, ⟨aE⟩⟩
           case rest =>
            clear HC48
            try clear c1
            try clear p1
            try clear q1
            try clear hx1
            try clear c2
            try clear p2
            try clear c3
            try clear c3b0
            try clear c3b1
            try clear c4
            try clear c5
            try clear c5b0
            try clear c6
            try clear c6b0
            try clear p6
            try clear c10
            try clear c12
            try clear c12b0
            try clear c13
            try clear c13b0
            try clear c14
            try clear c14b0
            try clear p14
            try clear q14
            try clear hx14
            try clear c15
            try clear p15
            try clear q15
            try clear hx15
            try clear c18
            try clear c18b0
            try clear c20
            try clear c20b0
            try clear c20b1
            try clear c21
            try clear c21b0
            try clear c21b1
            try clear c22
            try clear c22b0
            try clear c22b1
            try clear c27
            try clear c28
            try clear c28b0
            try clear c29
            try clear c29b0
            try clear c30
            try clear c30b0
            try clear c30b1
            try clear c35
            try clear c35b0
            try clear c36
            try clear c36b0
            try clear c37
            try clear c37b0
            try clear c37b1
            try clear c38
            try clear c38b0
            try clear c41
            try clear c41b0
            try clear c42
            try clear c42b0
            try clear c44
            try clear c44b0
            try clear c46
            try clear c46b0
            try clear c47
            try clear c47b0
            try clear c47b1
            try clear c50
            try clear c50b0
            try clear c50b1
            try clear c52
            try clear c52b0
            try clear c52b1
            try clear hcz11_0
            try clear hcz11_1
            try clear hcz11_2
            try clear hcz11_3
            try clear hcz15_0
            try clear hcz15_1
            try clear hcz15_2
            try clear hcz15_3
            try clear hcz16_0
            try clear hcz16_1
            try clear hcz16_2
            try clear hcz16_3
            try clear hcz17_0
            try clear hcz17_1
            try clear hcz17_2
            try clear hcz17_3
            try clear hcz23_0
            try clear hcz23_1
            try clear hcz23_2
            try clear hcz23_3
            try clear hcz24_0
            try clear hcz24_1
            try clear hcz24_2
            try clear hcz24_3
            try clear hcz25_0
            try clear hcz25_1
            try clear hcz25_2
            try clear hcz25_3
            try clear hcz31_0
            try clear hcz31_1
            try clear hcz31_2
            try clear hcz31_3
            try clear hcz32_0
            try clear hcz32_1
            try clear hcz32_2
            try clear hcz32_3
            try clear hcz33_0
            try clear hcz33_1
            try clear hcz33_2
            try clear hcz33_3
            try clear hcz39_0
            try clear hcz39_1
            try clear hcz39_2
            try clear hcz39_3
            try clear hcz40_0
            try clear hcz40_1
            try clear hcz40_2
            try clear hcz40_3
            try clear hcz43_0
            try clear hcz43_1
            try clear hcz43_2
            try clear hcz43_3
            try clear hcz49_0
            try clear hcz49_1
            try clear hcz49_2
            try clear hcz49_3
            try clear hcz51_0
            try clear hcz51_1
            try clear hcz51_2
            try clear hcz51_3
            try clear hcz53_0
            try clear hcz53_1
            try clear hcz53_2
            try clear hcz53_3
            try clear hcz55_0
            try clear hcz55_1
            try clear hcz55_2
            try clear hcz55_3
            try clear hcz9_0
            try clear hcz9_1
            try clear hcz9_2
            try clear hcz9_3
            try clear hfz11_0
            try clear hfz11_1
            try clear hfz11_2
            try clear hfz11_3
            try clear hfz15_0
            try clear hfz15_1
            try clear hfz15_2
            try clear hfz15_3
            try clear hfz16_0
            try clear hfz16_1
            try clear hfz16_2
            try clear hfz16_3
            try clear hfz17_0
            try clear hfz17_1
            try clear hfz17_2
            try clear hfz17_3
            try clear hfz23_0
            try clear hfz23_1
            try clear hfz23_2
            try clear hfz23_3
            try clear hfz24_0
            try clear hfz24_1
            try clear hfz24_2
            try clear hfz24_3
            try clear hfz25_0
            try clear hfz25_1
            try clear hfz25_2
            try clear hfz25_3
            try clear hfz31_0
            try clear hfz31_1
            try clear hfz31_2
            try clear hfz31_3
            try clear hfz32_0
            try clear hfz32_1
            try clear hfz32_2
            try clear hfz32_3
            try clear hfz33_0
            try clear hfz33_1
            try clear hfz33_2
            try clear hfz33_3
            try clear hfz39_0
            try clear hfz39_1
            try clear hfz39_2
            try clear hfz39_3
            try clear hfz40_0
            try clear hfz40_1
            try clear hfz40_2
            try clear hfz40_3
            try clear hfz43_0
            try clear hfz43_1
            try clear hfz43_2
            try clear hfz43_3
            try clear hfz49_0
            try clear hfz49_1
            try clear hfz49_2
            try clear hfz49_3
            try clear hfz51_0
            try clear hfz51_1
            try clear hfz51_2
            try clear hfz51_3
            try clear hfz53_0
            try clear hfz53_1
            try clear hfz53_2
            try clear hfz53_3
            try clear hfz55_0
            try clear hfz55_1
            try clear hfz55_2
            try clear hfz55_3
            try clear hfz9_0
            try clear hfz9_1
            try clear hfz9_2
            try clear hfz9_3
            try clear hx146_0
            try clear hx146_1
            try clear hx146_2
            try clear hx146_3
            try clear hx148_0
            try clear hx148_1
            try clear hx149_0
            try clear hx149_1
            try clear hx151_0
            try clear hx151_1
            try clear hx151_2
            try clear hx151_3
            try clear hx152_0
            try clear hx152_1
            try clear hx152_2
            try clear hx152_3
            try clear p1
            try clear p14
            try clear p146
            try clear p148
            try clear p149
            try clear p15
            try clear p151
            try clear p152
            try clear p2
            try clear p6
            try clear q1
            try clear q14
            try clear q146
            try clear q148
            try clear q149
            try clear q15
            try clear q151
            try clear q152
            obtain ⟨kq, x130_47, rfl, HA, HJ47, BK147, HB⟩ := hcut
            cases kq with
            | zero => exact absurd HA.out (by simp [spec_DocOk.j7])
            | succ kj47 =>
             have H := HA.out
             clear HA
             simp only [spec_DocOk.j7] at H
             by_cases c57 : x130_47 = true
             ·subst c57
              have H1 : (some false) = some r := by rw [if_pos rfl] at H; exact H
              clear H
              have H := H1
              clear H1
              obtain rfl := Option.some.inj H
              go_wp2
              repeat (go_quiet (fail); try go_wp2)
              go_ret
              exact ⟨by first | rfl | (simp only [aX1, aX2]; rfl) | (simp [*] <;> rfl), aE⟩
             replace c57 := Bool.eq_false_iff.mpr c57
             subst c57
             have H1 : (if 0 ≤ (wrap64 (x4_2 - 1)) then (if (wrap64 (x4_2 - 1)) < (l0.length : Int) then (if ((rd_T39 l0 (wrap64 (x4_2 - 1))).f1).toList = ([] : List UInt8) then (if ((rd_T39 l0 (wrap64 (x4_2 - 1))).f0) = ((rd_T39 l0 x4_2).f0) then (some false) else (spec_DocOk.l0 kj47 l0 x3_6 (wrap64 (x4_2 + 1)))) else (spec_DocOk.l0 kj47 l0 x3_6 (wrap64 (x4_2 + 1)))) else (none)) else (none)) = some r := by rw [if_neg (show ¬ (false = true) by decide)] at H; exact H
             clear H
             have H := H1
             clear H1
             obtain ⟨ji58, hji58⟩ : ∃ j_ : Int, (wrap64 (x4_2 - 1)) = j_ := ⟨_, rfl⟩
             replace H : (if 0 ≤ (ji58) then (if (ji58) < (l0.length : Int) then (if ((rd_T39 l0 (ji58)).f1).toList = ([] : List UInt8) then (if ((rd_T39 l0 (ji58)).f0) = ((rd_T39 l0 x4_2).f0) then (some false) else (spec_DocOk.l0 kj47 l0 x3_6 (wrap64 (x4_2 + 1)))) else (spec_DocOk.l0 kj47 l0 x3_6 (wrap64 (x4_2 + 1)))) else (none)) else (none)) = some r := by first | (rw [hji58] at H; exact H) | (simp only [hji58] at H ⊢; exact H)
             have hji58w : (IntKind.i64.wrap (x4_2 - 1)) = ji58 := (i64_w _).trans hji58
             by_cases c59 : 0 ≤ (ji58)
             rotate_left
             ·rw [if_neg c59] at H
              exact absurd H (by simp)
             rw [if_pos c59] at H
             have c59b0 : decide (0 ≤ (ji58)) = true := decide_eq_true c59
             clear c59
             by_cases c60 : (ji58) < (l0.length : Int)
             rotate_left
             ·rw [if_neg c60] at H
              exact absurd H (by simp)
             rw [if_pos c60] at H
             have c60b0 : decide ((ji58) < (l0.length : Int)) = true := decide_eq_true c60
             clear c60
             by_cases c61 : ((rd_T39 l0 (ji58)).f1).toList = ([] : List UInt8)
             rotate_left
             ·rw [if_neg c61] at H
              have c61b0 : (((rd_T39 l0 (ji58)).f1).toList == ([] : List UInt8)) = false := beq_eq_false_iff_ne.mpr c61
              have c61b1 : (((rd_T39 l0 (ji58)).f1).toList != ([] : List UInt8)) = true := bne_iff_ne.mpr c61
              have c61b2 : (((rd_T39 l0 (ji58)).f1)).toList.isEmpty = false := by (first | exact (List.isEmpty_iff.mpr (eq_of_beq c61b0)) | exact (Bool.eq_false_iff.mpr (fun h_ => by rw [List.isEmpty_iff.mp h_] at c61b0; cases c61b0)))
              have H' := Aside0.mk H
              clear H
              have p155 : 0 ≤ ((ji58) : Int) := aD
              have q155 : (ji58) < (l0.length : Int) := aD
              obtain ⟨ad155, A155_3, c155_3, e155, hx155_0, hx155_1, hx155_2, hx155_3, hl155_3, hi155_3⟩ := at_T39 HR0.out (ji58) p155 q155
              obtain rfl : ad146 = ad155 := (by injection e155)
              replace hx155_0 := (HB.out.cell (World.block_lt_of_cell? w _ hx155_0)).trans hx155_0
              replace hx155_1 := (HB.out.cell (World.block_lt_of_cell? w _ hx155_1)).trans hx155_1
              replace hx155_2 := (HB.out.cell (World.block_lt_of_cell? w _ hx155_2)).trans hx155_2
              replace hx155_3 := (HB.out.cell (World.block_lt_of_cell? w _ hx155_3)).trans hx155_3
              have HR155_3 := Aside0.mk hi155_3
              have HC155_3 := Aside0.mk hl155_3
              clear hi155_3 hl155_3
              replace p155 := eq_true p155
              replace q155 := eq_true q155
              go_wp2
              repeat (go_quiet (fail); try go_wp2)
              go_roundg kj47
              case measure => have := HJ1.out; have := HK2.out; have := HJ6.out; have := HJ18.out; have := HJ33.out; have := HJ47.out; omega
              case rel => exact ⟨(x3_6), (wrap64 (x4_2 + 1)), aR, aR, H', ⟨by have := HJ1.out; have := HK2.out; have := HJ6.out; have := HJ18.out; have := HJ33.out; have := HJ47.out; omega⟩, ⟨aE⟩⟩
             rw [if_pos c61] at H
             have c61b0 : (((rd_T39 l0 (ji58)).f1).toList == ([] : List UInt8)) = true := beq_iff_eq.mpr c61
             have c61b1 : (((rd_T39 l0 (ji58)).f1).toList != ([] : List UInt8)) = false := bne_eq_false_iff_eq.mpr c61
             have c61b2 : (((rd_T39 l0 (ji58)).f1)).toList.isEmpty = true := by (first | exact (List.isEmpty_iff.mpr (eq_of_beq c61b0)) | exact (Bool.eq_false_iff.mpr (fun h_ => by rw [List.isEmpty_iff.mp h_] at c61b0; cases c61b0)))
             clear c61
             by_cases c62 : ((rd_T39 l0 (ji58)).f0) = ((rd_T39 l0 x4_2).f0)
             ·rw [if_pos c62] at H
              have c62b0 : (((rd_T39 l0 (ji58)).f0) == ((rd_T39 l0 x4_2).f0)) = true := beq_iff_eq.mpr c62
              have c62b1 : (((rd_T39 l0 (ji58)).f0) != ((rd_T39 l0 x4_2).f0)) = false := bne_eq_false_iff_eq.mpr c62
              clear c62
              obtain rfl := Option.some.inj H
              have p155 : 0 ≤ ((ji58) : Int) := aD
              have q155 : (ji58) < (l0.length : Int) := aD
              obtain ⟨ad155, A155_3, c155_3, e155, hx155_0, hx155_1, hx155_2, hx155_3, hl155_3, hi155_3⟩ := at_T39 HR0.out (ji58) p155 q155
              obtain rfl : ad146 = ad155 := (by injection e155)
              replace hx155_0 := (HB.out.cell (World.block_lt_of_cell? w _ hx155_0)).trans hx155_0
              replace hx155_1 := (HB.out.cell (World.block_lt_of_cell? w _ hx155_1)).trans hx155_1
              replace hx155_2 := (HB.out.cell (World.block_lt_of_cell? w _ hx155_2)).trans hx155_2
              replace hx155_3 := (HB.out.cell (World.block_lt_of_cell? w _ hx155_3)).trans hx155_3
              have HR155_3 := Aside0.mk hi155_3
              have HC155_3 := Aside0.mk hl155_3
              clear hi155_3 hl155_3
              replace p155 := eq_true p155
              replace q155 := eq_true q155
              have p156 : 0 ≤ ((ji58) : Int) := aD
              have q156 : (ji58) < (l0.length : Int) := aD
              obtain ⟨ad156, A156_3, c156_3, e156, hx156_0, hx156_1, hx156_2, hx156_3, hl156_3, hi156_3⟩ := at_T39 HR0.out (ji58) p156 q156
              obtain rfl : ad146 = ad156 := (by injection e156)
              replace hx156_0 := (HB.out.cell (World.block_lt_of_cell? w _ hx156_0)).trans hx156_0
              replace hx156_1 := (HB.out.cell (World.block_lt_of_cell? w _ hx156_1)).trans hx156_1
              replace hx156_2 := (HB.out.cell (World.block_lt_of_cell? w _ hx156_2)).trans hx156_2
              replace hx156_3 := (HB.out.cell (World.block_lt_of_cell? w _ hx156_3)).trans hx156_3
              have HR156_3 := Aside0.mk hi156_3
              have HC156_3 := Aside0.mk hl156_3
              clear hi156_3 hl156_3
              replace p156 := eq_true p156
              replace q156 := eq_true q156
              have ea_ := Option.some.inj (hx155_3.symm.trans hx156_3)
              injection ea_ with ea_ en_ ec_
              subst ea_
              subst ec_
              clear en_
              have hcz63_0 : wc.cell? ⟨gb147, 0, none⟩ = some (.int .i64 ((rd_T39 l0 x4_2).f0)) := (blk_cell BK147.out 0).trans rfl
              have hcz63_1 : wc.cell? ⟨gb147, 1, none⟩ = some (.string ((rd_T39 l0 x4_2).f1)) := (blk_cell BK147.out 1).trans rfl
              have hcz63_2 : wc.cell? ⟨gb147, 2, none⟩ = some (.string ((rd_T39 l0 x4_2).f2)) := (blk_cell BK147.out 2).trans rfl
              have hcz63_3 : wc.cell? ⟨gb147, 3, none⟩ = some (.slice A146_3 ((rd_T39 l0 x4_2).f3).length c146_3) := (blk_cell BK147.out 3).trans rfl
              have hfz63_0 := blk_frozen BK147.out 0
              have hfz63_1 := blk_frozen BK147.out 1
              have hfz63_2 := blk_frozen BK147.out 2
              have hfz63_3 := blk_frozen BK147.out 3
              go_wp2
              repeat (go_quiet (fail); try go_wp2)
              go_ret
              exact ⟨by first | rfl | (simp only [aX1, aX2]; rfl) | (simp [errW_none, errW_some] <;> rfl) | (simp only [← hji58]; first | rfl | (simp [errW_none, errW_some] <;> rfl)) | (simp [*, errW_none, errW_some] <;> rfl), aE⟩
             rw [if_neg c62] at H
             have c62b0 : (((rd_T39 l0 (ji58)).f0) == ((rd_T39 l0 x4_2).f0)) = false := beq_eq_false_iff_ne.mpr c62
             have c62b1 : (((rd_T39 l0 (ji58)).f0) != ((rd_T39 l0 x4_2).f0)) = true := bne_iff_ne.mpr c62
             have H' := Aside0.mk H
             clear H
             have p155 : 0 ≤ ((ji58) : Int) := aD
             have q155 : (ji58) < (l0.length : Int) := aD
             obtain ⟨ad155, A155_3, c155_3, e155, hx155_0, hx155_1, hx155_2, hx155_3, hl155_3, hi155_3⟩ := at_T39 HR0.out (ji58) p155 q155
             obtain rfl : ad146 = ad155 := (by injection e155)
             replace hx155_0 := (HB.out.cell (World.block_lt_of_cell? w _ hx155_0)).trans hx155_0
             replace hx155_1 := (HB.out.cell (World.block_lt_of_cell? w _ hx155_1)).trans hx155_1
             replace hx155_2 := (HB.out.cell (World.block_lt_of_cell? w _ hx155_2)).trans hx155_2
             replace hx155_3 := (HB.out.cell (World.block_lt_of_cell? w _ hx155_3)).trans hx155_3
             have HR155_3 := Aside0.mk hi155_3
             have HC155_3 := Aside0.mk hl155_3
             clear hi155_3 hl155_3
             replace p155 := eq_true p155
             replace q155 := eq_true q155
             have p156 : 0 ≤ ((ji58) : Int) := aD
             have q156 : (ji58) < (l0.length : Int) := aD
             obtain ⟨ad156, A156_3, c156_3, e156, hx156_0, hx156_1, hx156_2, hx156_3, hl156_3, hi156_3⟩ := at_T39 HR0.out (ji58) p156 q156
             obtain rfl : ad146 = ad156 := (by injection e156)
             replace hx156_0 := (HB.out.cell (World.block_lt_of_cell? w _ hx156_0)).trans hx156_0
             replace hx156_1 := (HB.out.cell (World.block_lt_of_cell? w _ hx156_1)).trans hx156_1
             replace hx156_2 := (HB.out.cell (World.block_lt_of_cell? w _ hx156_2)).trans hx156_2
             replace hx156_3 := (HB.out.cell (World.block_lt_of_cell? w _ hx156_3)).trans hx156_3
             have HR156_3 := Aside0.mk hi156_3
             have HC156_3 := Aside0.mk hl156_3
             clear hi156_3 hl156_3
             replace p156 := eq_true p156
             replace q156 := eq_true q156
             have ea_ := Option.some.inj (hx155_3.symm.trans hx156_3)
             injection ea_ with ea_ en_ ec_
             subst ea_
             subst ec_
             clear en_
             have hcz64_0 : wc.cell? ⟨gb147, 0, none⟩ = some (.int .i64 ((rd_T39 l0 x4_2).f0)) := (blk_cell BK147.out 0).trans rfl
             have hcz64_1 : wc.cell? ⟨gb147, 1, none⟩ = some (.string ((rd_T39 l0 x4_2).f1)) := (blk_cell BK147.out 1).trans rfl
             have hcz64_2 : wc.cell? ⟨gb147, 2, none⟩ = some (.string ((rd_T39 l0 x4_2).f2)) := (blk_cell BK147.out 2).trans rfl
             have hcz64_3 : wc.cell? ⟨gb147, 3, none⟩ = some (.slice A146_3 ((rd_T39 l0 x4_2).f3).length c146_3) := (blk_cell BK147.out 3).trans rfl
             have hfz64_0 := blk_frozen BK147.out 0
             have hfz64_1 := blk_frozen BK147.out 1
             have hfz64_2 := blk_frozen BK147.out 2
             have hfz64_3 := blk_frozen BK147.out 3
             go_wp2
             repeat (go_quiet (fail); try go_wp2)
             go_roundg kj47
             case measure => have := HJ1.out; have := HK2.out; have := HJ6.out; have := HJ18.out; have := HJ33.out; have := HJ47.out; omega
             case rel => exact ⟨(x3_6), (wrap64 (x4_2 + 1)), aR, aR, H', ⟨by have := HJ1.out; have := HK2.out; have := HJ6.out; have := HJ18.out; have := HJ33.out; have := HJ47.out; omega⟩, ⟨aE⟩⟩
end Go.Proofs.YtbhklkpjjpkblaaGreatDoor.PP
