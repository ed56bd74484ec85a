-- Printed by this session's pdrive.py over the kit's printer.
import Derived.Test.YtomfhenoblfckaaPKx0
import Derived.Test.YtomfhenoblfckaaPKx2
import Derived.Test.YtomfhenoblfckaaPKx3
import Derived.Test.YtomfhenoblfckaaPKx4
import Derived.Test.YtomfhenoblfckaaPKx6
import Derived.Test.YtomfhenoblfckaaPKx7
import Derived.Test.YtomfhenoblfckaaPKx8
namespace Go.Proofs.Ytomfhenoblfckaa.PK
open Go.RowKit Go.Proofs.YtomfhenoblfckaaW.PrintWords Go.Proofs.YtomfhenoblfckaaW.PrintLast Go.Proofs.YtomfhenoblfckaaW.PrintMore Go.Proofs.YtomfhenoblfckaaW.WordsB
attribute [local go_sem] max2_int min2_int max_two min_two max_three min_three max_four min_four   -- for this text's walks alone
set_option linter.unusedVariables false
set_option linter.unusedSimpArgs false

/-! ### spec_RegexOk: function 26 -/
mutual
def spec_RegexOk.j0 : Nat → List (S41) → Bool → Option (Bool)
 | 0, _, _ => none
 | k + 1, x0, x12 => if x12 = true then (some false) else (spec_RegexOk.l0 k x0 0)
def spec_RegexOk.l0 : Nat → List (S41) → Int → Option (Bool)
 | 0, _, _ => none
 | k + 1, x0, x3 => if x3 < (x0.length : Int) then (if 0 ≤ x3 then ((spec_l6NodeOk.f k ((rd_T41 x0 x3).f0) ((rd_T41 x0 x3).f1) ((rd_T41 x0 x3).f2) ((rd_T41 x0 x3).f3) ((rd_T41 x0 x3).f4) ((rd_T41 x0 x3).f5) ((rd_T41 x0 x3).f6)).bind fun t250 => (if t250 = true then (spec_RegexOk.l0 k x0 (wrap64 (x3 + 1))) else (some false))) else (none)) else ((spec_l6Tree.f k x0 (wrap64 ((x0.length : Int) - 1))).bind fun t251 => (if t251 = 0 then ((spec_l6Weight.f k x0 (wrap64 ((x0.length : Int) - 1))).bind fun t252 => (some (decide (t252 ≤ 2000)))) else (some false)))
end
def spec_RegexOk.f (k : Nat) (l0 : List (S41)) : Option (Bool) := if (l0.length : Int) < 1 then (spec_RegexOk.j0 k l0 true) else (spec_RegexOk.j0 k l0 (decide ((l0.length : Int) > 120)))
theorem spec_RegexOk.mono_l : ∀ k, (∀ y0 y1, LeO (spec_RegexOk.j0 k y0 y1) (spec_RegexOk.j0 (k + 1) y0 y1)) ∧ (∀ y0 y1, LeO (spec_RegexOk.l0 k y0 y1) (spec_RegexOk.l0 (k + 1) y0 y1))
 | 0 => ⟨fun _ _ r h => by simp [spec_RegexOk.j0] at h, fun _ _ r h => by simp [spec_RegexOk.l0] at h⟩
 | k + 1 => by
  obtain ⟨ih0, ih1⟩ := spec_RegexOk.mono_l k
  refine ⟨?_, ?_⟩
  ·intro y0 y1
   unfold spec_RegexOk.j0
   repeat' first
   | (with_reducible exact ih0 _ _)
   | (with_reducible exact ih1 _ _)
   | (with_reducible exact spec_l6NodeOk.mono _ _ _ _ _ _ _ _)
   | (with_reducible exact spec_l6Tree.mono _ _ _)
   | (with_reducible exact spec_l6Weight.mono _ _ _)
   | (with_reducible exact LeO.refl _)
   | (with_reducible exact LeO.none _)
   | (with_reducible refine LeO.ite ?_ ?_)
   | (with_reducible refine LeO.bind ?_ (fun _ => ?_))
   | exact ih0 _ _
   | exact ih1 _ _
   | exact spec_l6NodeOk.mono _ _ _ _ _ _ _ _
   | exact spec_l6Tree.mono _ _ _
   | exact spec_l6Weight.mono _ _ _
   | exact LeO.none _
   | refine LeO.ite ?_ ?_
   | refine LeO.bind ?_ (fun _ => ?_)
  ·intro y0 y1
   unfold spec_RegexOk.l0
   repeat' first
   | (with_reducible exact ih0 _ _)
   | (with_reducible exact ih1 _ _)
   | (with_reducible exact spec_l6NodeOk.mono _ _ _ _ _ _ _ _)
   | (with_reducible exact spec_l6Tree.mono _ _ _)
   | (with_reducible exact spec_l6Weight.mono _ _ _)
   | (with_reducible exact LeO.refl _)
   | (with_reducible exact LeO.none _)
   | (with_reducible refine LeO.ite ?_ ?_)
   | (with_reducible refine LeO.bind ?_ (fun _ => ?_))
   | exact ih0 _ _
   | exact ih1 _ _
   | exact spec_l6NodeOk.mono _ _ _ _ _ _ _ _
   | exact spec_l6Tree.mono _ _ _
   | exact spec_l6Weight.mono _ _ _
   | exact LeO.none _
   | refine LeO.ite ?_ ?_
   | refine LeO.bind ?_ (fun _ => ?_)
theorem spec_RegexOk.mono : ∀ a0 k, LeO (spec_RegexOk.f k a0) (spec_RegexOk.f (k + 1) a0) := by
 intro a0 k
 obtain ⟨ih0, ih1⟩ := spec_RegexOk.mono_l k
 unfold spec_RegexOk.f
 repeat' first
   | (with_reducible exact ih0 _ _)
   | (with_reducible exact ih1 _ _)
   | (with_reducible exact spec_l6NodeOk.mono _ _ _ _ _ _ _ _)
   | (with_reducible exact spec_l6Tree.mono _ _ _)
   | (with_reducible exact spec_l6Weight.mono _ _ _)
   | (with_reducible exact LeO.refl _)
   | (with_reducible exact LeO.none _)
   | (with_reducible refine LeO.ite ?_ ?_)
   | (with_reducible refine LeO.bind ?_ (fun _ => ?_))
   | exact ih0 _ _
   | exact ih1 _ _
   | exact spec_l6NodeOk.mono _ _ _ _ _ _ _ _
   | exact spec_l6Tree.mono _ _ _
   | exact spec_l6Weight.mono _ _ _
   | exact LeO.none _
   | refine LeO.ite ?_ ?_
   | refine LeO.bind ?_ (fun _ => ?_)
set_option maxHeartbeats 8000000 in
set_option maxRecDepth 100000 in
theorem spec_RegexOk.calls (k : Nat) (A0 : Option Addr) (c0 : Nat) (l0 : List (S41)) (r : Bool) (w : World) (hr0 : Kd.C k41 w A0 l0.length l0) (hc0 : l0.length ≤ c0) (h : spec_RegexOk.f k l0 = some r) :
  Calls Try.prog 26 #[.slice A0 l0.length c0] w fun e w' => e = .returned (.bool r) ∧ Below w.heap.size w w' := by
 have hu41 := Try.underlying41
 have HR0 := Aside0.mk hr0
 have HC0 := Aside0.mk hc0
 clear hr0 hc0
 have HB := Aside0.mk (Below.refl w.heap.size w)
 have H : (if (l0.length : Int) < 1 then (spec_RegexOk.j0 k l0 true) else (spec_RegexOk.j0 k l0 (decide ((l0.length : Int) > 120)))) = some r := h
 clear h
 have HC2 := Aside0.mk H
 clear H
 go_enter Try.func26, Try.ntmps26
 go_upto_region 1 with (fail)
 go_cut [12] (fun v12 wc => ∃ (kq : Nat) (x12_1 : Bool), v12 = .bool x12_1 ∧ Aside0 (spec_RegexOk.j0 kq l0 x12_1 = some r) ∧ Aside0 (kq ≤ k) ∧ Aside0 (Below w.heap.size w wc))
 case first =>
  have H := HC2.out
  clear HC2
  by_cases c3 : (l0.length : Int) < 1
  ·rw [if_pos c3] at H
   have c3b0 : decide ((l0.length : Int) < 1) = true := decide_eq_true c3
   have c3b1 : decide (l0.length < 1) = true := decide_eq_true (by omega)
   clear c3
   (first | rw [c3b0] | (simp only [i64_w, i32_w]; rw [c3b0]) | skip)
   have H' := Aside0.mk H
   clear H
   go_wp2
   go_meet
   case rel => exact ⟨_, (true), (by first | rfl | (simp; done) | (simp [*]; done)), H', ⟨by first | omega | exact Nat.le_refl _⟩, ⟨by repeat (first | (with_reducible first | exact HB.out | apply below_alloc | apply pw_below_drewN | apply below_drew1) | exact HB.out)⟩⟩
  ·rw [if_neg c3] at H
   have c3b0 : decide ((l0.length : Int) < 1) = false := decide_eq_false c3
   have c3b1 : decide (l0.length < 1) = false := decide_eq_false (by omega)
   clear c3
   (first | rw [c3b0] | (simp only [i64_w, i32_w]; rw [c3b0]) | skip)
   have H' := Aside0.mk H
   clear H
   go_wp2
   go_meet
   case rel => exact ⟨_, (decide ((l0.length : Int) > 120)), (by first | rfl | (simp; done) | (simp [*]; done)), H', ⟨by first | omega | exact Nat.le_refl _⟩, ⟨by repeat (first | (with_reducible first | exact HB.out | apply below_alloc | apply pw_below_drewN | apply below_drew1) | exact HB.out)⟩⟩
 case rest =>
  clear HC2
  try clear c2
  try clear p2
  try clear c3
  try clear c3b0
  try clear c3b1
  obtain ⟨kq, x12_1, rfl, HA, HJ1, HB⟩ := hcut
  cases kq with
  | zero => exact absurd HA.out (by simp [spec_RegexOk.j0])
  | succ kj1 =>
   have H := HA.out
   clear HA
   simp only [spec_RegexOk.j0] at H
   by_cases c4 : x12_1 = true
   ·subst c4
    have H1 : (some false) = some r := by rw [if_pos rfl] at H; exact H
    clear H
    have H := H1
    clear H1
    obtain rfl := Option.some.inj H
    go_wp2
    go_ret
    exact ⟨by first | rfl | (simp [*] <;> rfl), by repeat (first | (with_reducible first | exact HB.out | apply below_alloc | apply pw_below_drewN | apply below_drew1) | exact HB.out)⟩
   ·replace c4 := Bool.eq_false_iff.mpr c4
    subst c4
    have H1 : (spec_RegexOk.l0 kj1 l0 0) = some r := by rw [if_neg (show ¬ (false = true) by decide)] at H; exact H
    clear H
    have H := H1
    clear H1
    have H' := Aside0.mk H
    clear H
    go_wp2
    go_loopg [3] kj1 (fun kq v3 w' => ∃ (x3_2 : Int), v3 = .int .i64 x3_2 ∧ Aside0 (spec_RegexOk.l0 kq l0 x3_2 = some r) ∧ Aside0 (kq ≤ kj1) ∧ Aside0 (Below w.heap.size w w'))
    case atStart => exact ⟨(0), (by first | rfl | (simp; done) | (simp [*]; done)), H', ⟨Nat.le_refl _⟩, ⟨by repeat (first | (with_reducible first | exact HB.out | apply below_alloc | apply pw_below_drewN | apply below_drew1) | exact HB.out)⟩⟩
    case round =>
     clear H'
     try clear c2
     try clear p2
     try clear c3
     try clear c3b0
     try clear c3b1
     try clear c4
     try clear p2
     obtain ⟨x3_2, rfl, HA, HK2, HB⟩ := hrel
     cases gk with
     | zero => exact absurd HA.out (by simp [spec_RegexOk.l0])
     | succ k2 =>
      have H := HA.out
      clear HA
      simp only [spec_RegexOk.l0] at H
      by_cases c5 : x3_2 < (l0.length : Int)
      ·rw [if_pos c5] at H
       have c5b0 : decide (x3_2 < (l0.length : Int)) = true := decide_eq_true c5
       clear c5
       by_cases c6 : 0 ≤ x3_2
       ·rw [if_pos c6] at H
        have c6b0 : decide (0 ≤ x3_2) = true := decide_eq_true c6
        clear c6
        replace H := Option.bind_eq_some_iff.mp H
        obtain ⟨t250, A70, H⟩ := H
        replace H : (if t250 = true then (spec_RegexOk.l0 k2 l0 (wrap64 (x3_2 + 1))) else (some false)) = some r := H
        have A7 := Aside0.mk A70
        clear A70
        by_cases c8 : t250 = true
        ·subst c8
         have H1 : (spec_RegexOk.l0 k2 l0 (wrap64 (x3_2 + 1))) = some r := by rw [if_pos rfl] at H; exact H
         clear H
         have H := H1
         clear H1
         have H' := Aside0.mk H
         clear H
         have p249 : 0 ≤ (x3_2 : Int) := of_decide_eq_true (by first | (with_reducible assumption) | assumption)
         have q249 : x3_2 < (l0.length : Int) := of_decide_eq_true (by first | (with_reducible assumption) | assumption)
         obtain ⟨ad249, A249_2, c249_2, e249, hx249_0, hx249_1, hx249_2, hx249_3, hx249_4, hx249_5, hx249_6, hl249_2, hi249_2⟩ := at_T41 HR0.out x3_2 p249 q249
         cases e249
         replace hx249_0 := (HB.out.cell (World.block_lt_of_cell? w _ hx249_0)).trans hx249_0
         replace hx249_1 := (HB.out.cell (World.block_lt_of_cell? w _ hx249_1)).trans hx249_1
         replace hx249_2 := (HB.out.cell (World.block_lt_of_cell? w _ hx249_2)).trans hx249_2
         replace hx249_3 := (HB.out.cell (World.block_lt_of_cell? w _ hx249_3)).trans hx249_3
         replace hx249_4 := (HB.out.cell (World.block_lt_of_cell? w _ hx249_4)).trans hx249_4
         replace hx249_5 := (HB.out.cell (World.block_lt_of_cell? w _ hx249_5)).trans hx249_5
         replace hx249_6 := (HB.out.cell (World.block_lt_of_cell? w _ hx249_6)).trans hx249_6
         have HR249_2 := Aside0.mk hi249_2
         have HC249_2 := Aside0.mk hl249_2
         clear hi249_2 hl249_2
         replace p249 := eq_true p249
         replace q249 := eq_true q249
         go_wp2_with (first | ((with_reducible refine gate_callee (f := 44) rfl ?_); refine goesL_ (some 23) rfl rfl Try.func44 (by kernel_rfl) rfl #[.agg #[.int .i64 ((rd_T41 l0 x3_2).f0), .bool ((rd_T41 l0 x3_2).f1), .slice A249_2 ((rd_T41 l0 x3_2).f2).length c249_2, .int .i64 ((rd_T41 l0 x3_2).f3), .int .i64 ((rd_T41 l0 x3_2).f4), .int .i64 ((rd_T41 l0 x3_2).f5), .int .i64 ((rd_T41 l0 x3_2).f6)]] rfl (by (try simp only [List.map_toArray, List.map_cons, List.map_nil]); first | done | rfl | (simp only [List.length_drop, List.length_take]; rfl)) ?_; (with_reducible refine (spec_l6NodeOk.calls k2 ((rd_T41 l0 x3_2).f0) ((rd_T41 l0 x3_2).f1) _ _ ((rd_T41 l0 x3_2).f2) ((rd_T41 l0 x3_2).f3) ((rd_T41 l0 x3_2).f4) ((rd_T41 l0 x3_2).f5) ((rd_T41 l0 x3_2).f6) true _ ?side1 ?side2 A7.out).mono ?_); (case side1 => repeat (first | exact (Kd.C_below HR249_2.out HB.out) | (with_reducible refine Kd.C_alloc ?_ _) | (with_reducible refine Kd.C_drewN ?_ _) | (with_reducible refine Kd.C_drew ?_))); (case side2 => exact HC249_2.out); rintro e w9 ⟨rfl, hb⟩; refine ⟨_, rfl, ?_⟩; have n0_ := Aside0.mk (below_step (by repeat (first | (with_reducible first | exact HB.out | apply below_alloc | apply pw_below_drewN | apply below_drew1) | exact HB.out)) hb); clear HB; have HB := n0_; clear n0_; (try clear hb); (try clear hb2); (try clear hk); (try clear hi)))
         go_roundg k2
         case measure => have := HJ1.out; have := HK2.out; omega
         case rel => exact ⟨(wrap64 (x3_2 + 1)), (by first | rfl | (simp; done) | (simp [*]; done)), H', ⟨by have := HJ1.out; have := HK2.out; omega⟩, ⟨by repeat (first | (with_reducible first | exact HB.out | apply below_alloc | apply pw_below_drewN | apply below_drew1) | exact HB.out)⟩⟩
        ·replace c8 := Bool.eq_false_iff.mpr c8
         subst c8
         have H1 : (some false) = some r := by rw [if_neg (show ¬ (false = true) by decide)] at H; exact H
         clear H
         have H := H1
         clear H1
         obtain rfl := Option.some.inj H
         have p249 : 0 ≤ (x3_2 : Int) := of_decide_eq_true (by first | (with_reducible assumption) | assumption)
         have q249 : x3_2 < (l0.length : Int) := of_decide_eq_true (by first | (with_reducible assumption) | assumption)
         obtain ⟨ad249, A249_2, c249_2, e249, hx249_0, hx249_1, hx249_2, hx249_3, hx249_4, hx249_5, hx249_6, hl249_2, hi249_2⟩ := at_T41 HR0.out x3_2 p249 q249
         cases e249
         replace hx249_0 := (HB.out.cell (World.block_lt_of_cell? w _ hx249_0)).trans hx249_0
         replace hx249_1 := (HB.out.cell (World.block_lt_of_cell? w _ hx249_1)).trans hx249_1
         replace hx249_2 := (HB.out.cell (World.block_lt_of_cell? w _ hx249_2)).trans hx249_2
         replace hx249_3 := (HB.out.cell (World.block_lt_of_cell? w _ hx249_3)).trans hx249_3
         replace hx249_4 := (HB.out.cell (World.block_lt_of_cell? w _ hx249_4)).trans hx249_4
         replace hx249_5 := (HB.out.cell (World.block_lt_of_cell? w _ hx249_5)).trans hx249_5
         replace hx249_6 := (HB.out.cell (World.block_lt_of_cell? w _ hx249_6)).trans hx249_6
         have HR249_2 := Aside0.mk hi249_2
         have HC249_2 := Aside0.mk hl249_2
         clear hi249_2 hl249_2
         replace p249 := eq_true p249
         replace q249 := eq_true q249
         go_wp2_with (first | ((with_reducible refine gate_callee (f := 44) rfl ?_); refine goesL_ (some 23) rfl rfl Try.func44 (by kernel_rfl) rfl #[.agg #[.int .i64 ((rd_T41 l0 x3_2).f0), .bool ((rd_T41 l0 x3_2).f1), .slice A249_2 ((rd_T41 l0 x3_2).f2).length c249_2, .int .i64 ((rd_T41 l0 x3_2).f3), .int .i64 ((rd_T41 l0 x3_2).f4), .int .i64 ((rd_T41 l0 x3_2).f5), .int .i64 ((rd_T41 l0 x3_2).f6)]] rfl (by (try simp only [List.map_toArray, List.map_cons, List.map_nil]); first | done | rfl | (simp only [List.length_drop, List.length_take]; rfl)) ?_; (with_reducible refine (spec_l6NodeOk.calls k2 ((rd_T41 l0 x3_2).f0) ((rd_T41 l0 x3_2).f1) _ _ ((rd_T41 l0 x3_2).f2) ((rd_T41 l0 x3_2).f3) ((rd_T41 l0 x3_2).f4) ((rd_T41 l0 x3_2).f5) ((rd_T41 l0 x3_2).f6) false _ ?side1 ?side2 A7.out).mono ?_); (case side1 => repeat (first | exact (Kd.C_below HR249_2.out HB.out) | (with_reducible refine Kd.C_alloc ?_ _) | (with_reducible refine Kd.C_drewN ?_ _) | (with_reducible refine Kd.C_drew ?_))); (case side2 => exact HC249_2.out); rintro e w10 ⟨rfl, hb⟩; refine ⟨_, rfl, ?_⟩; have n0_ := Aside0.mk (below_step (by repeat (first | (with_reducible first | exact HB.out | apply below_alloc | apply pw_below_drewN | apply below_drew1) | exact HB.out)) hb); clear HB; have HB := n0_; clear n0_; (try clear hb); (try clear hb2); (try clear hk); (try clear hi)))
         go_ret
         exact ⟨by first | rfl | (simp [*] <;> rfl), by repeat (first | (with_reducible first | exact HB.out | apply below_alloc | apply pw_below_drewN | apply below_drew1) | exact HB.out)⟩
       ·rw [if_neg c6] at H
        exact absurd H (by simp)
      ·rw [if_neg c5] at H
       have c5b0 : decide (x3_2 < (l0.length : Int)) = false := decide_eq_false c5
       clear c5
       replace H := Option.bind_eq_some_iff.mp H
       obtain ⟨t251, A110, H⟩ := H
       replace H : (if t251 = 0 then ((spec_l6Weight.f k2 l0 (wrap64 ((l0.length : Int) - 1))).bind fun t252 => (some (decide (t252 ≤ 2000)))) else (some false)) = some r := H
       have A11 := Aside0.mk A110
       clear A110
       by_cases c12 : t251 = 0
       ·rw [if_pos c12] at H
        have c12b0 : (t251 == 0) = true := beq_iff_eq.mpr c12
        have c12b1 : (t251 != 0) = false := bne_eq_false_iff_eq.mpr c12
        clear c12
        replace H := Option.bind_eq_some_iff.mp H
        obtain ⟨t252, A130, H⟩ := H
        replace H : (some (decide (t252 ≤ 2000))) = some r := H
        have A13 := Aside0.mk A130
        clear A130
        obtain rfl := Option.some.inj H
        go_wp2_with (first | ((with_reducible refine gate_callee (f := 53) rfl ?_); refine goesL_ (some 30) rfl rfl Try.func53 (by kernel_rfl) rfl #[.slice A0 l0.length c0, .int .i64 (wrap64 ((l0.length : Int) - 1))] rfl (by (try simp only [List.map_toArray, List.map_cons, List.map_nil]); first | done | rfl | (simp only [List.length_drop, List.length_take]; rfl)) ?_; (with_reducible refine (spec_l6Tree.calls k2 _ _ l0 (wrap64 ((l0.length : Int) - 1)) t251 _ ?side1 ?side2 A11.out).mono ?_); (case side1 => repeat (first | exact (Kd.C_below HR0.out HB.out) | (with_reducible refine Kd.C_alloc ?_ _) | (with_reducible refine Kd.C_drewN ?_ _) | (with_reducible refine Kd.C_drew ?_))); (case side2 => exact HC0.out); rintro e w' ⟨rfl, ⟨nd, rfl⟩⟩; refine ⟨_, rfl, ?_⟩) | (go_at_call 54; (with_reducible refine (spec_l6Weight.calls k2 _ _ l0 (wrap64 ((l0.length : Int) - 1)) t252 _ ?side1 ?side2 A13.out).mono ?_); (case side1 => repeat (first | exact (Kd.C_below HR0.out (by repeat (first | (with_reducible first | exact HB.out | apply below_alloc | apply pw_below_drewN | apply below_drew1) | exact HB.out))) | (with_reducible refine Kd.C_alloc ?_ _) | (with_reducible refine Kd.C_drewN ?_ _) | (with_reducible refine Kd.C_drew ?_))); (case side2 => exact HC0.out); rintro e w14 ⟨rfl, hb⟩; have n0_ := Aside0.mk (below_step (by repeat (first | (with_reducible first | exact HB.out | apply below_alloc | apply pw_below_drewN | apply below_drew1) | exact HB.out)) hb); clear HB; have HB := n0_; clear n0_; (try clear hb); (try clear hb2); (try clear hk); (try clear hi)))
        go_ret
        exact ⟨by first | rfl | (simp [*] <;> rfl), by repeat (first | (with_reducible first | exact HB.out | apply below_alloc | apply pw_below_drewN | apply below_drew1) | exact HB.out)⟩
       ·rw [if_neg c12] at H
        have c12b0 : (t251 == 0) = false := beq_eq_false_iff_ne.mpr c12
        have c12b1 : (t251 != 0) = true := bne_iff_ne.mpr c12
        obtain rfl := Option.some.inj H
        go_wp2_with (first | ((with_reducible refine gate_callee (f := 53) rfl ?_); refine goesL_ (some 30) rfl rfl Try.func53 (by kernel_rfl) rfl #[.slice A0 l0.length c0, .int .i64 (wrap64 ((l0.length : Int) - 1))] rfl (by (try simp only [List.map_toArray, List.map_cons, List.map_nil]); first | done | rfl | (simp only [List.length_drop, List.length_take]; rfl)) ?_; (with_reducible refine (spec_l6Tree.calls k2 _ _ l0 (wrap64 ((l0.length : Int) - 1)) t251 _ ?side1 ?side2 A11.out).mono ?_); (case side1 => repeat (first | exact (Kd.C_below HR0.out HB.out) | (with_reducible refine Kd.C_alloc ?_ _) | (with_reducible refine Kd.C_drewN ?_ _) | (with_reducible refine Kd.C_drew ?_))); (case side2 => exact HC0.out); rintro e w' ⟨rfl, ⟨nd, rfl⟩⟩; refine ⟨_, rfl, ?_⟩))
        go_ret
        exact ⟨by first | rfl | (simp [*] <;> rfl), by repeat (first | (with_reducible first | exact HB.out | apply below_alloc | apply pw_below_drewN | apply below_drew1) | exact HB.out)⟩

/-! ### laws_FnClass: function 8 -/
def laws_FnClass.j0 : Nat → Int → Bool → Bool → Int → Bool → List (S68) → Int → Int → Int → Int → Option (Bool)
 | 0, _, _, _, _, _, _, _, _, _, _ => none
 | k + 1, x4, x5, x39, x265000, x265001, x265002, x265003, x265004, x265005, x265006 => if x39 = true then ((spec_ClassHas.f k x265000 x265001 x265002 x265003 x265004 x265005 x265006 x4).bind fun t271 => (some (x5 == t271))) else ((impl_ClassHas.f k x265000 (!x265001) x265002 x265003 x265004 x265005 x265006 x4).bind fun t272 => (some (t272 != x5)))
def laws_FnClass.f (k : Nat) (l0 : List Int) : Option (Bool) := (laws_big.f l0).bind fun t253 => (if t253 = true then (some true) else ((spec_DrawClassHas.f k l0).bind fun bt254 => ((impl_ClassHas.f k bt254.1 bt254.2.1 bt254.2.2.1 bt254.2.2.2.1 bt254.2.2.2.2.1 bt254.2.2.2.2.2.1 bt254.2.2.2.2.2.2.1 bt254.2.2.2.2.2.2.2).bind fun t265 => ((spec_ClassHas.f k bt254.1 bt254.2.1 bt254.2.2.1 bt254.2.2.2.1 bt254.2.2.2.2.1 bt254.2.2.2.2.2.1 bt254.2.2.2.2.2.2.1 bt254.2.2.2.2.2.2.2).bind fun t266 => (if (t265 != t266) = true then (laws_FnClass.j0 k bt254.2.2.2.2.2.2.2 t265 true bt254.1 bt254.2.1 bt254.2.2.1 bt254.2.2.2.1 bt254.2.2.2.2.1 bt254.2.2.2.2.2.1 bt254.2.2.2.2.2.2.1) else (if bt254.1 = 2 then ((spec_RegexOk.f k (([(⟨bt254.1, bt254.2.1, bt254.2.2.1, bt254.2.2.2.1, bt254.2.2.2.2.1, bt254.2.2.2.2.2.1, bt254.2.2.2.2.2.2.1⟩ : S41)] : List (S41)))).bind fun t270 => (if t270 = true then (if bt254.2.2.2.2.2.2.2 < 0 then (laws_FnClass.j0 k bt254.2.2.2.2.2.2.2 t265 true bt254.1 bt254.2.1 bt254.2.2.1 bt254.2.2.2.1 bt254.2.2.2.2.1 bt254.2.2.2.2.2.1 bt254.2.2.2.2.2.2.1) else (laws_FnClass.j0 k bt254.2.2.2.2.2.2.2 t265 (decide (bt254.2.2.2.2.2.2.2 > 55295)) bt254.1 bt254.2.1 bt254.2.2.1 bt254.2.2.2.1 bt254.2.2.2.2.1 bt254.2.2.2.2.2.1 bt254.2.2.2.2.2.2.1)) else (laws_FnClass.j0 k bt254.2.2.2.2.2.2.2 t265 true bt254.1 bt254.2.1 bt254.2.2.1 bt254.2.2.2.1 bt254.2.2.2.2.1 bt254.2.2.2.2.2.1 bt254.2.2.2.2.2.2.1))) else (laws_FnClass.j0 k bt254.2.2.2.2.2.2.2 t265 true bt254.1 bt254.2.1 bt254.2.2.1 bt254.2.2.2.1 bt254.2.2.2.2.1 bt254.2.2.2.2.2.1 bt254.2.2.2.2.2.2.1)))))))
theorem laws_FnClass.mono_l : ∀ k, (∀ y0 y1 y2 y3 y4 y5 y6 y7 y8 y9, LeO (laws_FnClass.j0 k y0 y1 y2 y3 y4 y5 y6 y7 y8 y9) (laws_FnClass.j0 (k + 1) y0 y1 y2 y3 y4 y5 y6 y7 y8 y9))
 | 0 => fun _ _ _ _ _ _ _ _ _ _ r h => by simp [laws_FnClass.j0] at h
 | k + 1 => by
  have ih0 := laws_FnClass.mono_l k
  ·intro y0 y1 y2 y3 y4 y5 y6 y7 y8 y9
   unfold laws_FnClass.j0
   repeat' first
   | (with_reducible exact ih0 _ _ _ _ _ _ _ _ _ _)
   | (with_reducible exact impl_ClassHas.mono _ _ _ _ _ _ _ _ _)
   | (with_reducible exact spec_ClassHas.mono _ _ _ _ _ _ _ _ _)
   | (with_reducible exact spec_DrawClassHas.mono _ _)
   | (with_reducible exact spec_RegexOk.mono _ _)
   | (with_reducible exact LeO.refl _)
   | (with_reducible exact LeO.none _)
   | (with_reducible refine LeO.ite ?_ ?_)
   | (with_reducible refine LeO.bind ?_ (fun _ => ?_))
   | exact ih0 _ _ _ _ _ _ _ _ _ _
   | exact impl_ClassHas.mono _ _ _ _ _ _ _ _ _
   | exact spec_ClassHas.mono _ _ _ _ _ _ _ _ _
   | exact spec_DrawClassHas.mono _ _
   | exact spec_RegexOk.mono _ _
   | exact LeO.none _
   | refine LeO.ite ?_ ?_
   | refine LeO.bind ?_ (fun _ => ?_)
theorem laws_FnClass.mono : ∀ a0 k, LeO (laws_FnClass.f k a0) (laws_FnClass.f (k + 1) a0) := by
 intro a0 k
 have ih0 := laws_FnClass.mono_l k
 unfold laws_FnClass.f
 repeat' first
   | (with_reducible exact ih0 _ _ _ _ _ _ _ _ _ _)
   | (with_reducible exact impl_ClassHas.mono _ _ _ _ _ _ _ _ _)
   | (with_reducible exact spec_ClassHas.mono _ _ _ _ _ _ _ _ _)
   | (with_reducible exact spec_DrawClassHas.mono _ _)
   | (with_reducible exact spec_RegexOk.mono _ _)
   | (with_reducible exact LeO.refl _)
   | (with_reducible exact LeO.none _)
   | (with_reducible refine LeO.ite ?_ ?_)
   | (with_reducible refine LeO.bind ?_ (fun _ => ?_))
   | exact ih0 _ _ _ _ _ _ _ _ _ _
   | exact impl_ClassHas.mono _ _ _ _ _ _ _ _ _
   | exact spec_ClassHas.mono _ _ _ _ _ _ _ _ _
   | exact spec_DrawClassHas.mono _ _
   | exact spec_RegexOk.mono _ _
   | exact LeO.none _
   | refine LeO.ite ?_ ?_
   | refine LeO.bind ?_ (fun _ => ?_)
set_option maxHeartbeats 8000000 in
set_option maxRecDepth 100000 in
theorem laws_FnClass.calls (k : Nat) (A0 : Option Addr) (c0 : Nat) (l0 : List Int) (r : Bool) (w : World) (hr0 : Kd.C (Kd.int .u8) w A0 l0.length l0) (hc0 : l0.length ≤ c0) (h : laws_FnClass.f k l0 = some r) :
  Calls Try.prog 8 #[.slice A0 l0.length c0] w fun e w' => e = .returned (.bool r) ∧ Below w.heap.size w w' := by
 have hu41 := Try.underlying41
 have HR0 := Aside0.mk hr0
 have HC0 := Aside0.mk hc0
 clear hr0 hc0
 have HB := Aside0.mk (Below.refl w.heap.size w)
 have H : ((laws_big.f l0).bind fun t253 => (if t253 = true then (some true) else ((spec_DrawClassHas.f k l0).bind fun bt254 => ((impl_ClassHas.f k bt254.1 bt254.2.1 bt254.2.2.1 bt254.2.2.2.1 bt254.2.2.2.2.1 bt254.2.2.2.2.2.1 bt254.2.2.2.2.2.2.1 bt254.2.2.2.2.2.2.2).bind fun t265 => ((spec_ClassHas.f k bt254.1 bt254.2.1 bt254.2.2.1 bt254.2.2.2.1 bt254.2.2.2.2.1 bt254.2.2.2.2.2.1 bt254.2.2.2.2.2.2.1 bt254.2.2.2.2.2.2.2).bind fun t266 => (if (t265 != t266) = true then (laws_FnClass.j0 k bt254.2.2.2.2.2.2.2 t265 true bt254.1 bt254.2.1 bt254.2.2.1 bt254.2.2.2.1 bt254.2.2.2.2.1 bt254.2.2.2.2.2.1 bt254.2.2.2.2.2.2.1) else (if bt254.1 = 2 then ((spec_RegexOk.f k (([(⟨bt254.1, bt254.2.1, bt254.2.2.1, bt254.2.2.2.1, bt254.2.2.2.2.1, bt254.2.2.2.2.2.1, bt254.2.2.2.2.2.2.1⟩ : S41)] : List (S41)))).bind fun t270 => (if t270 = true then (if bt254.2.2.2.2.2.2.2 < 0 then (laws_FnClass.j0 k bt254.2.2.2.2.2.2.2 t265 true bt254.1 bt254.2.1 bt254.2.2.1 bt254.2.2.2.1 bt254.2.2.2.2.1 bt254.2.2.2.2.2.1 bt254.2.2.2.2.2.2.1) else (laws_FnClass.j0 k bt254.2.2.2.2.2.2.2 t265 (decide (bt254.2.2.2.2.2.2.2 > 55295)) bt254.1 bt254.2.1 bt254.2.2.1 bt254.2.2.2.1 bt254.2.2.2.2.1 bt254.2.2.2.2.2.1 bt254.2.2.2.2.2.2.1)) else (laws_FnClass.j0 k bt254.2.2.2.2.2.2.2 t265 true bt254.1 bt254.2.1 bt254.2.2.1 bt254.2.2.2.1 bt254.2.2.2.2.1 bt254.2.2.2.2.2.1 bt254.2.2.2.2.2.2.1))) else (laws_FnClass.j0 k bt254.2.2.2.2.2.2.2 t265 true bt254.1 bt254.2.1 bt254.2.2.1 bt254.2.2.2.1 bt254.2.2.2.2.1 bt254.2.2.2.2.2.1 bt254.2.2.2.2.2.2.1)))))))) = some r := h
 clear h
 replace H := Option.bind_eq_some_iff.mp H
 obtain ⟨t253, A20, H⟩ := H
 replace H : (if t253 = true then (some true) else ((spec_DrawClassHas.f k l0).bind fun bt254 => ((impl_ClassHas.f k bt254.1 bt254.2.1 bt254.2.2.1 bt254.2.2.2.1 bt254.2.2.2.2.1 bt254.2.2.2.2.2.1 bt254.2.2.2.2.2.2.1 bt254.2.2.2.2.2.2.2).bind fun t265 => ((spec_ClassHas.f k bt254.1 bt254.2.1 bt254.2.2.1 bt254.2.2.2.1 bt254.2.2.2.2.1 bt254.2.2.2.2.2.1 bt254.2.2.2.2.2.2.1 bt254.2.2.2.2.2.2.2).bind fun t266 => (if (t265 != t266) = true then (laws_FnClass.j0 k bt254.2.2.2.2.2.2.2 t265 true bt254.1 bt254.2.1 bt254.2.2.1 bt254.2.2.2.1 bt254.2.2.2.2.1 bt254.2.2.2.2.2.1 bt254.2.2.2.2.2.2.1) else (if bt254.1 = 2 then ((spec_RegexOk.f k (([(⟨bt254.1, bt254.2.1, bt254.2.2.1, bt254.2.2.2.1, bt254.2.2.2.2.1, bt254.2.2.2.2.2.1, bt254.2.2.2.2.2.2.1⟩ : S41)] : List (S41)))).bind fun t270 => (if t270 = true then (if bt254.2.2.2.2.2.2.2 < 0 then (laws_FnClass.j0 k bt254.2.2.2.2.2.2.2 t265 true bt254.1 bt254.2.1 bt254.2.2.1 bt254.2.2.2.1 bt254.2.2.2.2.1 bt254.2.2.2.2.2.1 bt254.2.2.2.2.2.2.1) else (laws_FnClass.j0 k bt254.2.2.2.2.2.2.2 t265 (decide (bt254.2.2.2.2.2.2.2 > 55295)) bt254.1 bt254.2.1 bt254.2.2.1 bt254.2.2.2.1 bt254.2.2.2.2.1 bt254.2.2.2.2.2.1 bt254.2.2.2.2.2.2.1)) else (laws_FnClass.j0 k bt254.2.2.2.2.2.2.2 t265 true bt254.1 bt254.2.1 bt254.2.2.1 bt254.2.2.2.1 bt254.2.2.2.2.1 bt254.2.2.2.2.2.1 bt254.2.2.2.2.2.2.1))) else (laws_FnClass.j0 k bt254.2.2.2.2.2.2.2 t265 true bt254.1 bt254.2.1 bt254.2.2.1 bt254.2.2.2.1 bt254.2.2.2.2.1 bt254.2.2.2.2.2.1 bt254.2.2.2.2.2.2.1))))))) = some r := H
 have A2 := Aside0.mk A20
 clear A20
 by_cases c3 : t253 = true
 ·subst c3
  have H1 : (some true) = some r := by rw [if_pos rfl] at H; exact H
  clear H
  have H := H1
  clear H1
  obtain rfl := Option.some.inj H
  go_enter Try.func8, Try.ntmps8
  go_wp2_with (first | ((with_reducible refine gate_callee (f := 18) rfl ?_); refine goesL_ (some 7) rfl rfl Try.func18 (by kernel_rfl) rfl #[.slice A0 l0.length c0] rfl (by (try simp only [List.map_toArray, List.map_cons, List.map_nil]); first | done | rfl | (simp only [List.length_drop, List.length_take]; rfl)) ?_; (with_reducible refine (laws_big.calls _ _ l0 true _ ?side1 ?side2 A2.out).mono ?_); (case side1 => repeat (first | exact HR0.out | (with_reducible refine Kd.C_alloc ?_ _) | (with_reducible refine Kd.C_drewN ?_ _) | (with_reducible refine Kd.C_drew ?_))); (case side2 => exact HC0.out); rintro e w' ⟨rfl, ⟨nd, rfl⟩⟩; refine ⟨_, rfl, ?_⟩))
  go_ret
  exact ⟨by first | rfl | (simp [*] <;> rfl), by repeat (first | (with_reducible first | exact HB.out | apply below_alloc | apply pw_below_drewN | apply below_drew1) | exact HB.out)⟩
 ·replace c3 := Bool.eq_false_iff.mpr c3
  subst c3
  have H1 : ((spec_DrawClassHas.f k l0).bind fun bt254 => ((impl_ClassHas.f k bt254.1 bt254.2.1 bt254.2.2.1 bt254.2.2.2.1 bt254.2.2.2.2.1 bt254.2.2.2.2.2.1 bt254.2.2.2.2.2.2.1 bt254.2.2.2.2.2.2.2).bind fun t265 => ((spec_ClassHas.f k bt254.1 bt254.2.1 bt254.2.2.1 bt254.2.2.2.1 bt254.2.2.2.2.1 bt254.2.2.2.2.2.1 bt254.2.2.2.2.2.2.1 bt254.2.2.2.2.2.2.2).bind fun t266 => (if (t265 != t266) = true then (laws_FnClass.j0 k bt254.2.2.2.2.2.2.2 t265 true bt254.1 bt254.2.1 bt254.2.2.1 bt254.2.2.2.1 bt254.2.2.2.2.1 bt254.2.2.2.2.2.1 bt254.2.2.2.2.2.2.1) else (if bt254.1 = 2 then ((spec_RegexOk.f k (([(⟨bt254.1, bt254.2.1, bt254.2.2.1, bt254.2.2.2.1, bt254.2.2.2.2.1, bt254.2.2.2.2.2.1, bt254.2.2.2.2.2.2.1⟩ : S41)] : List (S41)))).bind fun t270 => (if t270 = true then (if bt254.2.2.2.2.2.2.2 < 0 then (laws_FnClass.j0 k bt254.2.2.2.2.2.2.2 t265 true bt254.1 bt254.2.1 bt254.2.2.1 bt254.2.2.2.1 bt254.2.2.2.2.1 bt254.2.2.2.2.2.1 bt254.2.2.2.2.2.2.1) else (laws_FnClass.j0 k bt254.2.2.2.2.2.2.2 t265 (decide (bt254.2.2.2.2.2.2.2 > 55295)) bt254.1 bt254.2.1 bt254.2.2.1 bt254.2.2.2.1 bt254.2.2.2.2.1 bt254.2.2.2.2.2.1 bt254.2.2.2.2.2.2.1)) else (laws_FnClass.j0 k bt254.2.2.2.2.2.2.2 t265 true bt254.1 bt254.2.1 bt254.2.2.1 bt254.2.2.2.1 bt254.2.2.2.2.1 bt254.2.2.2.2.2.1 bt254.2.2.2.2.2.2.1))) else (laws_FnClass.j0 k bt254.2.2.2.2.2.2.2 t265 true bt254.1 bt254.2.1 bt254.2.2.1 bt254.2.2.2.1 bt254.2.2.2.2.1 bt254.2.2.2.2.2.1 bt254.2.2.2.2.2.2.1)))))) = some r := by rw [if_neg (show ¬ (false = true) by decide)] at H; exact H
  clear H
  have H := H1
  clear H1
  replace H := Option.bind_eq_some_iff.mp H
  obtain ⟨⟨t254, t255, t256, t259, t260, t261, t262, t263⟩, A40, H⟩ := H
  replace H : ((impl_ClassHas.f k t254 t255 t256 t259 t260 t261 t262 t263).bind fun t265 => ((spec_ClassHas.f k t254 t255 t256 t259 t260 t261 t262 t263).bind fun t266 => (if (t265 != t266) = true then (laws_FnClass.j0 k t263 t265 true t254 t255 t256 t259 t260 t261 t262) else (if t254 = 2 then ((spec_RegexOk.f k (([(⟨t254, t255, t256, t259, t260, t261, t262⟩ : S41)] : List (S41)))).bind fun t270 => (if t270 = true then (if t263 < 0 then (laws_FnClass.j0 k t263 t265 true t254 t255 t256 t259 t260 t261 t262) else (laws_FnClass.j0 k t263 t265 (decide (t263 > 55295)) t254 t255 t256 t259 t260 t261 t262)) else (laws_FnClass.j0 k t263 t265 true t254 t255 t256 t259 t260 t261 t262))) else (laws_FnClass.j0 k t263 t265 true t254 t255 t256 t259 t260 t261 t262))))) = some r := H
  have A4 := Aside0.mk A40
  clear A40
  replace H := Option.bind_eq_some_iff.mp H
  obtain ⟨t265, A50, H⟩ := H
  replace H : ((spec_ClassHas.f k t254 t255 t256 t259 t260 t261 t262 t263).bind fun t266 => (if (t265 != t266) = true then (laws_FnClass.j0 k t263 t265 true t254 t255 t256 t259 t260 t261 t262) else (if t254 = 2 then ((spec_RegexOk.f k (([(⟨t254, t255, t256, t259, t260, t261, t262⟩ : S41)] : List (S41)))).bind fun t270 => (if t270 = true then (if t263 < 0 then (laws_FnClass.j0 k t263 t265 true t254 t255 t256 t259 t260 t261 t262) else (laws_FnClass.j0 k t263 t265 (decide (t263 > 55295)) t254 t255 t256 t259 t260 t261 t262)) else (laws_FnClass.j0 k t263 t265 true t254 t255 t256 t259 t260 t261 t262))) else (laws_FnClass.j0 k t263 t265 true t254 t255 t256 t259 t260 t261 t262)))) = some r := H
  have A5 := Aside0.mk A50
  clear A50
  have HC6 := Aside0.mk H
  clear H
  go_enter Try.func8, Try.ntmps8
  go_upto_region 5 with (first | ((with_reducible refine gate_callee (f := 18) rfl ?_); refine goesL_ (some 7) rfl rfl Try.func18 (by kernel_rfl) rfl #[.slice A0 l0.length c0] rfl (by (try simp only [List.map_toArray, List.map_cons, List.map_nil]); first | done | rfl | (simp only [List.length_drop, List.length_take]; rfl)) ?_; (with_reducible refine (laws_big.calls _ _ l0 false _ ?side1 ?side2 A2.out).mono ?_); (case side1 => repeat (first | exact HR0.out | (with_reducible refine Kd.C_alloc ?_ _) | (with_reducible refine Kd.C_drewN ?_ _) | (with_reducible refine Kd.C_drew ?_))); (case side2 => exact HC0.out); rintro e w' ⟨rfl, ⟨nd, rfl⟩⟩; refine ⟨_, rfl, ?_⟩) | ((with_reducible refine gate_callee (f := 25) rfl ?_); refine goesL_ (some 10) rfl rfl Try.func25 (by kernel_rfl) rfl #[.slice A0 l0.length c0] rfl (by (try simp only [List.map_toArray, List.map_cons, List.map_nil]); first | done | rfl | (simp only [List.length_drop, List.length_take]; rfl)) ?_; (with_reducible refine (spec_DrawClassHas.calls k _ _ l0 t254 t255 t256 t259 t260 t261 t262 t263 _ ?side1 ?side2 A4.out).mono ?_); (case side1 => repeat (first | exact HR0.out | (with_reducible refine Kd.C_alloc ?_ _) | (with_reducible refine Kd.C_drewN ?_ _) | (with_reducible refine Kd.C_drew ?_))); (case side2 => exact HC0.out); rintro e w7 ⟨v257, rfl, ho0, hb⟩; refine ⟨_, rfl, ?_⟩; have n0_ := Aside0.mk (Kd.R_lower ho0 (below_size (by repeat (first | (with_reducible first | exact HB.out | apply below_alloc | apply pw_below_drewN | apply below_drew1) | exact HB.out)))); have n1_ := Aside0.mk (below_step (by repeat (first | (with_reducible first | exact HB.out | apply below_alloc | apply pw_below_drewN | apply below_drew1) | exact HB.out)) hb); clear HB; have HO258 := n0_; have HB := n1_; clear n0_ n1_; (try clear hb); (try clear hb2); (try clear hk); (try clear hi); (try clear ho0)) | ((with_reducible refine gate_dst (N := 3) rfl ?_); (try (refine gate_guard (by rfl) ?_; dsimp only)); refine box_event ?hg (N := 3) ?hd (cs := #[.int .i64 0, .bool false, .slice none 0 0, .int .i64 0, .int .i64 0, .int .i64 0, .int .i64 0]) (t := 41) ?hr ?_; (case hd => rfl); (case hg => rfl); (case hr => first | (go_simp; done) | (go_simp; rfl)); intro gb264 hg w8 hbox hb; have n0_ := Aside0.mk (Kd.R_below (by (with_reducible repeat (first | apply Kd.R_alloc | apply Kd.R_drewN | apply Kd.R_drew)); exact HO258.out) hb); have n1_ := Aside0.mk (below_step (by repeat (first | (with_reducible first | exact HB.out | apply below_alloc | apply pw_below_drewN | apply below_drew1) | exact HB.out)) hb); have n2_ := Aside0.mk (hbox); have n3_ := Aside0.mk ((by rw [hg]; exact (below_size (by repeat (first | (with_reducible first | exact HB.out | apply below_alloc | apply pw_below_drewN | apply below_drew1) | exact HB.out))) : w.heap.size ≤ gb264)); have n4_ := Aside0.mk ((by rw [hg]; exact (below_size (by repeat (first | (with_reducible first | exact HB.out | apply below_alloc | apply pw_below_drewN | apply below_drew1) | exact HB.out))) : w.heap.size ≤ gb264)); clear HO258; clear HB; have HO258 := n0_; have HB := n1_; have BK264 := n2_; have GW264 := n3_; have GE264 := n4_; clear n0_ n1_ n2_ n3_ n4_; clear hb hbox hg; have hcz9_0 : w8.cell? ⟨gb264, 0, none⟩ = some (.int .i64 0) := (blk_cell BK264.out 0).trans rfl; have hcz9_1 : w8.cell? ⟨gb264, 1, none⟩ = some (.bool false) := (blk_cell BK264.out 1).trans rfl; have hcz9_2 : w8.cell? ⟨gb264, 2, none⟩ = some (.slice none 0 0) := (blk_cell BK264.out 2).trans rfl; have hcz9_3 : w8.cell? ⟨gb264, 3, none⟩ = some (.int .i64 0) := (blk_cell BK264.out 3).trans rfl; have hcz9_4 : w8.cell? ⟨gb264, 4, none⟩ = some (.int .i64 0) := (blk_cell BK264.out 4).trans rfl; have hcz9_5 : w8.cell? ⟨gb264, 5, none⟩ = some (.int .i64 0) := (blk_cell BK264.out 5).trans rfl; have hcz9_6 : w8.cell? ⟨gb264, 6, none⟩ = some (.int .i64 0) := (blk_cell BK264.out 6).trans rfl; have hfz9_0 := blk_frozen BK264.out 0; have hfz9_1 := blk_frozen BK264.out 1; have hfz9_2 := blk_frozen BK264.out 2; have hfz9_3 := blk_frozen BK264.out 3; have hfz9_4 := blk_frozen BK264.out 4; have hfz9_5 := blk_frozen BK264.out 5; have hfz9_6 := blk_frozen BK264.out 6; obtain ⟨Ao10, co10, eo10⟩ := Kd.R_slice HO258.out; subst eo10) | ((with_reducible refine gate_store (t := 41) (p := 3) rfl ?_); refine store_event (t := 41) (p := 3) (v := ?vo_w11) (w1 := (((((((w8.setCell ⟨gb264, 0, none⟩ (.int .i64 t254)).setCell ⟨gb264, 1, none⟩ (.bool t255)).setCell ⟨gb264, 2, none⟩ (.slice Ao10 t256.length co10)).setCell ⟨gb264, 3, none⟩ (.int .i64 t259)).setCell ⟨gb264, 4, none⟩ (.int .i64 t260)).setCell ⟨gb264, 5, none⟩ (.int .i64 t261)).setCell ⟨gb264, 6, none⟩ (.int .i64 t262))) ?hg ?ho ?hn ?hr ?_; (case ho => rfl); (case hg => rfl); (case hn => rfl); (case hr => first | (go_simp; done) | (go_simp; rfl)); intro w11 hw; have n0_ : Aside0 (Kd.R k68 68 w11 w.heap.size (fun _ => True) (.slice Ao10 t256.length co10) t256) := ⟨(by rw [hw]; exact (by (with_reducible repeat (first | apply Kd.R_alloc | apply Kd.R_drewN | apply Kd.R_drew)); exact Kd.R_mono (Kd.R_far (p := ⟨gb264, 6, none⟩) (Kd.R_far (p := ⟨gb264, 5, none⟩) (Kd.R_far (p := ⟨gb264, 4, none⟩) (Kd.R_far (p := ⟨gb264, 3, none⟩) (Kd.R_far (p := ⟨gb264, 2, none⟩) (Kd.R_far (p := ⟨gb264, 1, none⟩) (Kd.R_far (p := ⟨gb264, 0, none⟩) (Kd.R_types HO258.out BK264.out (by decide)) (fun _ hk => hk.2) (.int .i64 t254)) (fun _ hk => hk.2) (.bool t255)) (fun _ hk => hk.2) (.slice Ao10 t256.length co10)) (fun _ hk => hk.2) (.int .i64 t259)) (fun _ hk => hk.2) (.int .i64 t260)) (fun _ hk => hk.2) (.int .i64 t261)) (fun _ hk => hk.2) (.int .i64 t262)) (fun _ hk => trivial)))⟩; have n1_ : Aside0 (w11.heap[gb264]? = some (.cells #[.int .i64 t254, .bool t255, .slice Ao10 t256.length co10, .int .i64 t259, .int .i64 t260, .int .i64 t261, .int .i64 t262] 41 (0, 0))) := ⟨(by rw [hw]; exact (by (with_reducible repeat (first | refine blk_drewN ?_ _ | refine blk_drew ?_ | refine blk_alloc ?_ _)); refine blk_put (cs := #[.int .i64 t254, .bool t255, .slice Ao10 t256.length co10, .int .i64 t259, .int .i64 t260, .int .i64 t261, .int .i64 0]) ?_ 6 _ rfl; (with_reducible repeat (first | refine blk_drewN ?_ _ | refine blk_drew ?_ | refine blk_alloc ?_ _)); refine blk_put (cs := #[.int .i64 t254, .bool t255, .slice Ao10 t256.length co10, .int .i64 t259, .int .i64 t260, .int .i64 0, .int .i64 0]) ?_ 5 _ rfl; (with_reducible repeat (first | refine blk_drewN ?_ _ | refine blk_drew ?_ | refine blk_alloc ?_ _)); refine blk_put (cs := #[.int .i64 t254, .bool t255, .slice Ao10 t256.length co10, .int .i64 t259, .int .i64 0, .int .i64 0, .int .i64 0]) ?_ 4 _ rfl; (with_reducible repeat (first | refine blk_drewN ?_ _ | refine blk_drew ?_ | refine blk_alloc ?_ _)); refine blk_put (cs := #[.int .i64 t254, .bool t255, .slice Ao10 t256.length co10, .int .i64 0, .int .i64 0, .int .i64 0, .int .i64 0]) ?_ 3 _ rfl; (with_reducible repeat (first | refine blk_drewN ?_ _ | refine blk_drew ?_ | refine blk_alloc ?_ _)); refine blk_put (cs := #[.int .i64 t254, .bool t255, .slice none 0 0, .int .i64 0, .int .i64 0, .int .i64 0, .int .i64 0]) ?_ 2 _ rfl; (with_reducible repeat (first | refine blk_drewN ?_ _ | refine blk_drew ?_ | refine blk_alloc ?_ _)); refine blk_put (cs := #[.int .i64 t254, .bool false, .slice none 0 0, .int .i64 0, .int .i64 0, .int .i64 0, .int .i64 0]) ?_ 1 _ rfl; (with_reducible repeat (first | refine blk_drewN ?_ _ | refine blk_drew ?_ | refine blk_alloc ?_ _)); refine blk_put (cs := #[.int .i64 0, .bool false, .slice none 0 0, .int .i64 0, .int .i64 0, .int .i64 0, .int .i64 0]) ?_ 0 _ rfl; (with_reducible repeat (first | refine blk_drewN ?_ _ | refine blk_drew ?_ | refine blk_alloc ?_ _)); exact BK264.out))⟩; have n2_ : Aside0 (Below w.heap.size w w11) := ⟨(by rw [hw]; exact (by repeat (first | (with_reducible first | exact HB.out | apply below_alloc | apply pw_below_drewN | apply below_drew1 | refine below_set ?_ GE264.out) | exact HB.out)))⟩; clear hw; clear HO258; clear BK264; clear HB; have HO258 := n0_; have BK264 := n1_; have HB := n2_; clear n0_ n1_ n2_; have hcz12_0 : w11.cell? ⟨gb264, 0, none⟩ = some (.int .i64 t254) := (blk_cell BK264.out 0).trans rfl; have hcz12_1 : w11.cell? ⟨gb264, 1, none⟩ = some (.bool t255) := (blk_cell BK264.out 1).trans rfl; have hcz12_2 : w11.cell? ⟨gb264, 2, none⟩ = some (.slice Ao10 t256.length co10) := (blk_cell BK264.out 2).trans rfl; have hcz12_3 : w11.cell? ⟨gb264, 3, none⟩ = some (.int .i64 t259) := (blk_cell BK264.out 3).trans rfl; have hcz12_4 : w11.cell? ⟨gb264, 4, none⟩ = some (.int .i64 t260) := (blk_cell BK264.out 4).trans rfl; have hcz12_5 : w11.cell? ⟨gb264, 5, none⟩ = some (.int .i64 t261) := (blk_cell BK264.out 5).trans rfl; have hcz12_6 : w11.cell? ⟨gb264, 6, none⟩ = some (.int .i64 t262) := (blk_cell BK264.out 6).trans rfl; have hfz12_0 := blk_frozen BK264.out 0; have hfz12_1 := blk_frozen BK264.out 1; have hfz12_2 := blk_frozen BK264.out 2; have hfz12_3 := blk_frozen BK264.out 3; have hfz12_4 := blk_frozen BK264.out 4; have hfz12_5 := blk_frozen BK264.out 5; have hfz12_6 := blk_frozen BK264.out 6) | ((with_reducible refine gate_callee (f := 23) rfl ?_); refine goesL_ (some 15) rfl rfl Try.func23 (by kernel_rfl) rfl #[.agg #[.int .i64 t254, .bool t255, .slice Ao10 t256.length co10, .int .i64 t259, .int .i64 t260, .int .i64 t261, .int .i64 t262], .int .i64 t263] rfl (by (try simp only [List.map_toArray, List.map_cons, List.map_nil]); first | done | rfl | (simp only [List.length_drop, List.length_take]; rfl)) ?_; (with_reducible refine (impl_ClassHas.calls k t254 t255 _ _ t256 t259 t260 t261 t262 t263 t265 _ ?side1 ?side2 A5.out).mono ?_); (case side1 => repeat (first | exact (Kd.R_reads' HO258.out).2.2 | (with_reducible refine Kd.C_alloc ?_ _) | (with_reducible refine Kd.C_drewN ?_ _) | (with_reducible refine Kd.C_drew ?_))); (case side2 => exact (Kd.R_reads' HO258.out).2.1); rintro e w13 ⟨rfl, hb⟩; refine ⟨_, rfl, ?_⟩; have n0_ := Aside0.mk (Kd.R_below (by (with_reducible repeat (first | apply Kd.R_alloc | apply Kd.R_drewN | apply Kd.R_drew)); exact HO258.out) hb); have n1_ := Aside0.mk (blk_below (g := gb264) (o := .cells #[.int .i64 t254, .bool t255, .slice Ao10 t256.length co10, .int .i64 t259, .int .i64 t260, .int .i64 t261, .int .i64 t262] 41 (0, 0)) (by (with_reducible repeat (first | refine blk_drewN ?_ _ | refine blk_drew ?_ | refine blk_alloc ?_ _)); exact BK264.out) hb); have n2_ := Aside0.mk (below_step (by repeat (first | (with_reducible first | exact HB.out | apply below_alloc | apply pw_below_drewN | apply below_drew1 | refine below_set ?_ GE264.out) | exact HB.out)) hb); clear HO258; clear BK264; clear HB; have HO258 := n0_; have BK264 := n1_; have HB := n2_; clear n0_ n1_ n2_; (try clear hb); (try clear hb2); (try clear hk); (try clear hi)))
  (try simp only [Act.put, List.setIfInBounds_toArray, List.set_cons_zero, List.set_cons_succ])
  go_cut [39] (fun v39 wc => ∃ (kq : Nat) (x39_5 : Bool), v39 = .bool x39_5 ∧ Aside0 (laws_FnClass.j0 kq t263 t265 x39_5 t254 t255 t256 t259 t260 t261 t262 = some r) ∧ Aside0 (kq ≤ k) ∧ Aside0 (Kd.R k68 68 wc w.heap.size (fun _ => True) (.slice Ao10 t256.length co10) t256) ∧ Aside0 (wc.heap[gb264]? = some (.cells #[.int .i64 t254, .bool t255, (.slice Ao10 t256.length co10), .int .i64 t259, .int .i64 t260, .int .i64 t261, .int .i64 t262] 41 (0, 0))) ∧ Aside0 (Below w.heap.size w wc))
  case first =>
   have H := HC6.out
   clear HC6
   replace H := Option.bind_eq_some_iff.mp H
   obtain ⟨t266, A140, H⟩ := H
   replace H : (if (t265 != t266) = true then (laws_FnClass.j0 k t263 t265 true t254 t255 t256 t259 t260 t261 t262) else (if t254 = 2 then ((spec_RegexOk.f k (([(⟨t254, t255, t256, t259, t260, t261, t262⟩ : S41)] : List (S41)))).bind fun t270 => (if t270 = true then (if t263 < 0 then (laws_FnClass.j0 k t263 t265 true t254 t255 t256 t259 t260 t261 t262) else (laws_FnClass.j0 k t263 t265 (decide (t263 > 55295)) t254 t255 t256 t259 t260 t261 t262)) else (laws_FnClass.j0 k t263 t265 true t254 t255 t256 t259 t260 t261 t262))) else (laws_FnClass.j0 k t263 t265 true t254 t255 t256 t259 t260 t261 t262))) = some r := H
   have A14 := Aside0.mk A140
   clear A140
   by_cases c15 : (t265 != t266) = true
   ·rw [if_pos c15] at H
    have c15b0 : (t265 != t266) = true := c15
    (try (have c15b1 : decide (t265 = t266) = false := by simpa using c15))
    (try (have c15b2 : (t265 == t266) = false := by simpa using c15))
    (try (have c15b3 : ¬ (t265 = t266) := by simpa using c15))
    clear c15
    (first | rw [c15b0] | (simp only [i64_w, i32_w]; rw [c15b0]) | skip)
    have H' := Aside0.mk H
    clear H
    have hcz16_0 : w13.cell? ⟨gb264, 0, none⟩ = some (.int .i64 t254) := (blk_cell BK264.out 0).trans rfl
    have hcz16_1 : w13.cell? ⟨gb264, 1, none⟩ = some (.bool t255) := (blk_cell BK264.out 1).trans rfl
    have hcz16_2 : w13.cell? ⟨gb264, 2, none⟩ = some (.slice Ao10 t256.length co10) := (blk_cell BK264.out 2).trans rfl
    have hcz16_3 : w13.cell? ⟨gb264, 3, none⟩ = some (.int .i64 t259) := (blk_cell BK264.out 3).trans rfl
    have hcz16_4 : w13.cell? ⟨gb264, 4, none⟩ = some (.int .i64 t260) := (blk_cell BK264.out 4).trans rfl
    have hcz16_5 : w13.cell? ⟨gb264, 5, none⟩ = some (.int .i64 t261) := (blk_cell BK264.out 5).trans rfl
    have hcz16_6 : w13.cell? ⟨gb264, 6, none⟩ = some (.int .i64 t262) := (blk_cell BK264.out 6).trans rfl
    have hfz16_0 := blk_frozen BK264.out 0
    have hfz16_1 := blk_frozen BK264.out 1
    have hfz16_2 := blk_frozen BK264.out 2
    have hfz16_3 := blk_frozen BK264.out 3
    have hfz16_4 := blk_frozen BK264.out 4
    have hfz16_5 := blk_frozen BK264.out 5
    have hfz16_6 := blk_frozen BK264.out 6
    go_wp2_with (first | ((with_reducible refine gate_callee (f := 21) rfl ?_); refine goesL_ (some 19) rfl rfl Try.func21 (by kernel_rfl) rfl #[.agg #[.int .i64 t254, .bool t255, .slice Ao10 t256.length co10, .int .i64 t259, .int .i64 t260, .int .i64 t261, .int .i64 t262], .int .i64 t263] rfl (by (try simp only [List.map_toArray, List.map_cons, List.map_nil]); first | done | rfl | (simp only [List.length_drop, List.length_take]; rfl)) ?_; (with_reducible refine (spec_ClassHas.calls k t254 t255 _ _ t256 t259 t260 t261 t262 t263 t266 _ ?side1 ?side2 A14.out).mono ?_); (case side1 => repeat (first | exact (Kd.R_reads' HO258.out).2.2 | (with_reducible refine Kd.C_alloc ?_ _) | (with_reducible refine Kd.C_drewN ?_ _) | (with_reducible refine Kd.C_drew ?_))); (case side2 => exact (Kd.R_reads' HO258.out).2.1); rintro e w17 ⟨rfl, hb⟩; refine ⟨_, rfl, ?_⟩; have n0_ := Aside0.mk (Kd.R_below (by (with_reducible repeat (first | apply Kd.R_alloc | apply Kd.R_drewN | apply Kd.R_drew)); exact HO258.out) hb); have n1_ := Aside0.mk (blk_below (g := gb264) (o := .cells #[.int .i64 t254, .bool t255, .slice Ao10 t256.length co10, .int .i64 t259, .int .i64 t260, .int .i64 t261, .int .i64 t262] 41 (0, 0)) (by (with_reducible repeat (first | refine blk_drewN ?_ _ | refine blk_drew ?_ | refine blk_alloc ?_ _)); exact BK264.out) hb); have n2_ := Aside0.mk (below_step (by repeat (first | (with_reducible first | exact HB.out | apply below_alloc | apply pw_below_drewN | apply below_drew1 | refine below_set ?_ GE264.out) | exact HB.out)) hb); clear HO258; clear BK264; clear HB; have HO258 := n0_; have BK264 := n1_; have HB := n2_; clear n0_ n1_ n2_; (try clear hb); (try clear hb2); (try clear hk); (try clear hi)))
    go_meet
    case rel => exact ⟨_, (true), (by first | rfl | (simp; done) | (simp [*]; done)), H', ⟨by first | omega | exact Nat.le_refl _⟩, ⟨by (with_reducible repeat (first | apply Kd.R_alloc | apply Kd.R_drewN | apply Kd.R_drew)); exact HO258.out⟩, ⟨by (with_reducible repeat (first | refine blk_drewN ?_ _ | refine blk_drew ?_ | refine blk_alloc ?_ _)); exact BK264.out⟩, ⟨by repeat (first | (with_reducible first | exact HB.out | apply below_alloc | apply pw_below_drewN | apply below_drew1 | refine below_set ?_ GE264.out) | exact HB.out)⟩⟩
   ·rw [if_neg c15] at H
    have c15b0 : (t265 != t266) = false := by simpa using c15
    (try (have c15b1 : decide (t265 = t266) = true := by simpa using c15))
    (try (have c15b2 : (t265 == t266) = true := by simpa using c15))
    clear c15
    (first | rw [c15b0] | (simp only [i64_w, i32_w]; rw [c15b0]) | skip)
    by_cases c18 : t254 = 2
    ·rw [if_pos c18] at H
     have c18b0 : (t254 == 2) = true := beq_iff_eq.mpr c18
     have c18b1 : (t254 != 2) = false := bne_eq_false_iff_eq.mpr c18
     clear c18
     obtain ⟨y267, hy267⟩ : ∃ y_ : List (S41), y_ = (([(⟨t254, t255, t256, t259, t260, t261, t262⟩ : S41)] : List (S41))) := ⟨_, rfl⟩
     replace H : ((spec_RegexOk.f k y267).bind fun t270 => (if t270 = true then (if t263 < 0 then (laws_FnClass.j0 k t263 t265 true t254 t255 t256 t259 t260 t261 t262) else (laws_FnClass.j0 k t263 t265 (decide (t263 > 55295)) t254 t255 t256 t259 t260 t261 t262)) else (laws_FnClass.j0 k t263 t265 true t254 t255 t256 t259 t260 t261 t262))) = some r := by first | (rw [hy267]; with_reducible exact H) | (have H2_ := (Option.bind_some _ _).symm.trans H; rw [hy267]; with_reducible exact H2_) | (have H2_ := (Option.bind_some _ _).symm.trans H; with_reducible exact H2_) | with_reducible exact H | (rw [hy267]; exact H) | exact H
     have Ny267 := Aside0.mk hy267
     clear hy267
     replace H := Option.bind_eq_some_iff.mp H
     obtain ⟨t270, A190, H⟩ := H
     replace H : (if t270 = true then (if t263 < 0 then (laws_FnClass.j0 k t263 t265 true t254 t255 t256 t259 t260 t261 t262) else (laws_FnClass.j0 k t263 t265 (decide (t263 > 55295)) t254 t255 t256 t259 t260 t261 t262)) else (laws_FnClass.j0 k t263 t265 true t254 t255 t256 t259 t260 t261 t262)) = some r := H
     have A19 := Aside0.mk A190
     clear A190
     by_cases c20 : t270 = true
     ·subst c20
      have H1 : (if t263 < 0 then (laws_FnClass.j0 k t263 t265 true t254 t255 t256 t259 t260 t261 t262) else (laws_FnClass.j0 k t263 t265 (decide (t263 > 55295)) t254 t255 t256 t259 t260 t261 t262)) = some r := by rw [if_pos rfl] at H; exact H
      clear H
      have H := H1
      clear H1
      by_cases c21 : t263 < 0
      ·rw [if_pos c21] at H
       have c21b0 : decide (t263 < 0) = true := decide_eq_true c21
       clear c21
       have H' := Aside0.mk H
       clear H
       have hcz22_0 : w13.cell? ⟨gb264, 0, none⟩ = some (.int .i64 t254) := (blk_cell BK264.out 0).trans rfl
       have hcz22_1 : w13.cell? ⟨gb264, 1, none⟩ = some (.bool t255) := (blk_cell BK264.out 1).trans rfl
       have hcz22_2 : w13.cell? ⟨gb264, 2, none⟩ = some (.slice Ao10 t256.length co10) := (blk_cell BK264.out 2).trans rfl
       have hcz22_3 : w13.cell? ⟨gb264, 3, none⟩ = some (.int .i64 t259) := (blk_cell BK264.out 3).trans rfl
       have hcz22_4 : w13.cell? ⟨gb264, 4, none⟩ = some (.int .i64 t260) := (blk_cell BK264.out 4).trans rfl
       have hcz22_5 : w13.cell? ⟨gb264, 5, none⟩ = some (.int .i64 t261) := (blk_cell BK264.out 5).trans rfl
       have hcz22_6 : w13.cell? ⟨gb264, 6, none⟩ = some (.int .i64 t262) := (blk_cell BK264.out 6).trans rfl
       have hfz22_0 := blk_frozen BK264.out 0
       have hfz22_1 := blk_frozen BK264.out 1
       have hfz22_2 := blk_frozen BK264.out 2
       have hfz22_3 := blk_frozen BK264.out 3
       have hfz22_4 := blk_frozen BK264.out 4
       have hfz22_5 := blk_frozen BK264.out 5
       have hfz22_6 := blk_frozen BK264.out 6
       go_wp2_with (first | ((with_reducible refine gate_callee (f := 21) rfl ?_); refine goesL_ (some 19) rfl rfl Try.func21 (by kernel_rfl) rfl #[.agg #[.int .i64 t254, .bool t255, .slice Ao10 t256.length co10, .int .i64 t259, .int .i64 t260, .int .i64 t261, .int .i64 t262], .int .i64 t263] rfl (by (try simp only [List.map_toArray, List.map_cons, List.map_nil]); first | done | rfl | (simp only [List.length_drop, List.length_take]; rfl)) ?_; (with_reducible refine (spec_ClassHas.calls k t254 t255 _ _ t256 t259 t260 t261 t262 t263 t266 _ ?side1 ?side2 A14.out).mono ?_); (case side1 => repeat (first | exact (Kd.R_reads' HO258.out).2.2 | (with_reducible refine Kd.C_alloc ?_ _) | (with_reducible refine Kd.C_drewN ?_ _) | (with_reducible refine Kd.C_drew ?_))); (case side2 => exact (Kd.R_reads' HO258.out).2.1); rintro e w23 ⟨rfl, hb⟩; refine ⟨_, rfl, ?_⟩; have n0_ := Aside0.mk (Kd.R_below (by (with_reducible repeat (first | apply Kd.R_alloc | apply Kd.R_drewN | apply Kd.R_drew)); exact HO258.out) hb); have n1_ := Aside0.mk (blk_below (g := gb264) (o := .cells #[.int .i64 t254, .bool t255, .slice Ao10 t256.length co10, .int .i64 t259, .int .i64 t260, .int .i64 t261, .int .i64 t262] 41 (0, 0)) (by (with_reducible repeat (first | refine blk_drewN ?_ _ | refine blk_drew ?_ | refine blk_alloc ?_ _)); exact BK264.out) hb); have n2_ := Aside0.mk (below_step (by repeat (first | (with_reducible first | exact HB.out | apply below_alloc | apply pw_below_drewN | apply below_drew1 | refine below_set ?_ GE264.out) | exact HB.out)) hb); clear HO258; clear BK264; clear HB; have HO258 := n0_; have BK264 := n1_; have HB := n2_; clear n0_ n1_ n2_; (try clear hb); (try clear hb2); (try clear hk); (try clear hi); have hcz24_0 : w23.cell? ⟨gb264, 0, none⟩ = some (.int .i64 t254) := (blk_cell BK264.out 0).trans rfl; have hcz24_1 : w23.cell? ⟨gb264, 1, none⟩ = some (.bool t255) := (blk_cell BK264.out 1).trans rfl; have hcz24_2 : w23.cell? ⟨gb264, 2, none⟩ = some (.slice Ao10 t256.length co10) := (blk_cell BK264.out 2).trans rfl; have hcz24_3 : w23.cell? ⟨gb264, 3, none⟩ = some (.int .i64 t259) := (blk_cell BK264.out 3).trans rfl; have hcz24_4 : w23.cell? ⟨gb264, 4, none⟩ = some (.int .i64 t260) := (blk_cell BK264.out 4).trans rfl; have hcz24_5 : w23.cell? ⟨gb264, 5, none⟩ = some (.int .i64 t261) := (blk_cell BK264.out 5).trans rfl; have hcz24_6 : w23.cell? ⟨gb264, 6, none⟩ = some (.int .i64 t262) := (blk_cell BK264.out 6).trans rfl; have hfz24_0 := blk_frozen BK264.out 0; have hfz24_1 := blk_frozen BK264.out 1; have hfz24_2 := blk_frozen BK264.out 2; have hfz24_3 := blk_frozen BK264.out 3; have hfz24_4 := blk_frozen BK264.out 4; have hfz24_5 := blk_frozen BK264.out 5; have hfz24_6 := blk_frozen BK264.out 6) | ((with_reducible refine gate_dst (N := 28) rfl ?_); (try (refine gate_guard (by rfl) ?_; dsimp only)); refine Kd.N_lit k41 _ 41 ?hg (N' := 28) ?hd (xs := ([(⟨t254, t255, t256, t259, t260, t261, t262⟩ : S41)] : List (S41))) (inner := [.int .i64 t254, .bool t255, .slice Ao10 t256.length co10, .int .i64 t259, .int .i64 t260, .int .i64 t261, .int .i64 t262]) (ok := (fun k_ => k_ ≠ gb264)) (okp := (fun k_ => k_ ≠ gb264)) ?hr ?hp (fun _ hk => hk) ((show ∀ k_, w23.heap.size ≤ k_ → (fun k_ => k_ ≠ gb264) k_ from fun k_ hk => Kd.freshB (g := gb264) (o := .cells #[.int .i64 t254, .bool t255, .slice Ao10 t256.length co10, .int .i64 t259, .int .i64 t260, .int .i64 t261, .int .i64 t262] 41 (0, 0)) (by (with_reducible repeat (first | refine blk_drewN ?_ _ | refine blk_drew ?_ | refine blk_alloc ?_ _)); exact BK264.out) k_ hk) _ (Nat.le_refl _)) (Below.refl _ _) (Nat.le_refl _) (by simp) ?_; (case hd => rfl); (case hg => rfl); (case hr => first | (go_simp; done) | (go_simp; rfl)); (case hp => exact (Reps.c7 (show Kd.FK k41 _ _ (⟨t254, t255, t256, t259, t260, t261, t262⟩ : S41) [.int .i64 t254, .bool t255, .slice Ao10 t256.length co10, .int .i64 t259, .int .i64 t260, .int .i64 t261, .int .i64 t262] from (k41_mkF _ _ (⟨t254, t255, t256, t259, t260, t261, t262⟩ : S41) (Kd.R_reads' (Kd.R_mono (ok' := (fun k_ => k_ ≠ gb264)) (Kd.R_types (HO258.out) BK264.out (by decide)) (fun k_ hk => hk.2))).2.1 (Kd.R_F (Kd.R_mono (ok' := (fun k_ => k_ ≠ gb264)) (Kd.R_types (HO258.out) BK264.out (by decide)) (fun k_ hk => hk.2))))) (Reps.none _ _))); intro v268 w25 ho26 hb hg_ hnew_; clear hg_ hnew_; (first | rw [← Ny267.out] at ho26 | (simp only [Int.reduceToNat] at ho26; rw [← Ny267.out] at ho26)); have n0_ := Aside0.mk (Kd.N_lower ho26 (below_size (by repeat (first | (with_reducible first | exact HB.out | apply below_alloc | apply pw_below_drewN | apply below_drew1 | refine below_set ?_ GE264.out) | exact HB.out)))); have n1_ := Aside0.mk (blk_below (g := gb264) (o := .cells #[.int .i64 t254, .bool t255, .slice Ao10 t256.length co10, .int .i64 t259, .int .i64 t260, .int .i64 t261, .int .i64 t262] 41 (0, 0)) (by (with_reducible repeat (first | refine blk_drewN ?_ _ | refine blk_drew ?_ | refine blk_alloc ?_ _)); exact BK264.out) hb); have n2_ := Aside0.mk (below_step (by repeat (first | (with_reducible first | exact HB.out | apply below_alloc | apply pw_below_drewN | apply below_drew1 | refine below_set ?_ GE264.out) | exact HB.out)) hb); have m0_ := Aside0.mk (Kd.R_below (by (with_reducible repeat (first | apply Kd.R_alloc | apply Kd.R_drewN | apply Kd.R_drew)); exact HO258.out) hb); clear BK264; clear HB; clear HO258; have HO258 := m0_; clear m0_; have HO269 := n0_; have BK264 := n1_; have HB := n2_; clear n0_ n1_ n2_; clear hb ho26; obtain ⟨Ao27, co27, eo27⟩ := Kd.N_slice HO269.out; subst eo27) | (go_at_call 26; (with_reducible refine (spec_RegexOk.calls k _ _ y267 true _ ?side1 ?side2 A19.out).mono ?_); (case side1 => repeat (first | exact (Kd.N_reads' HO269.out).2.2 | (with_reducible refine Kd.C_alloc ?_ _) | (with_reducible refine Kd.C_drewN ?_ _) | (with_reducible refine Kd.C_drew ?_))); (case side2 => exact (Kd.N_reads' HO269.out).2.1); rintro e w28 ⟨rfl, hb⟩; have n0_ := Aside0.mk (Kd.N_below (by (with_reducible repeat (first | apply Kd.N_alloc | apply Kd.N_drewN | apply Kd.N_drew)); exact HO269.out) hb); have n1_ := Aside0.mk (blk_below (g := gb264) (o := .cells #[.int .i64 t254, .bool t255, .slice Ao10 t256.length co10, .int .i64 t259, .int .i64 t260, .int .i64 t261, .int .i64 t262] 41 (0, 0)) (by (with_reducible repeat (first | refine blk_drewN ?_ _ | refine blk_drew ?_ | refine blk_alloc ?_ _)); exact BK264.out) hb); have n2_ := Aside0.mk (below_step (by repeat (first | (with_reducible first | exact HB.out | apply below_alloc | apply pw_below_drewN | apply below_drew1 | refine below_set ?_ GE264.out) | exact HB.out)) hb); have m0_ := Aside0.mk (Kd.R_below (by (with_reducible repeat (first | apply Kd.R_alloc | apply Kd.R_drewN | apply Kd.R_drew)); exact HO258.out) hb); clear HO258; have HO258 := m0_; clear m0_; clear HO269; clear BK264; clear HB; have HO269 := n0_; have BK264 := n1_; have HB := n2_; clear n0_ n1_ n2_; (try clear hb); (try clear hb2); (try clear hk); (try clear hi)))
       go_meet
       case rel => exact ⟨_, (true), (by first | rfl | (simp; done) | (simp [*]; done)), H', ⟨by first | omega | exact Nat.le_refl _⟩, ⟨by (with_reducible repeat (first | apply Kd.R_alloc | apply Kd.R_drewN | apply Kd.R_drew)); exact HO258.out⟩, ⟨by (with_reducible repeat (first | refine blk_drewN ?_ _ | refine blk_drew ?_ | refine blk_alloc ?_ _)); exact BK264.out⟩, ⟨by repeat (first | (with_reducible first | exact HB.out | apply below_alloc | apply pw_below_drewN | apply below_drew1 | refine below_set ?_ GE264.out) | exact HB.out)⟩⟩
      ·rw [if_neg c21] at H
       have c21b0 : decide (t263 < 0) = false := decide_eq_false c21
       clear c21
       have H' := Aside0.mk H
       clear H
       have hcz29_0 : w13.cell? ⟨gb264, 0, none⟩ = some (.int .i64 t254) := (blk_cell BK264.out 0).trans rfl
       have hcz29_1 : w13.cell? ⟨gb264, 1, none⟩ = some (.bool t255) := (blk_cell BK264.out 1).trans rfl
       have hcz29_2 : w13.cell? ⟨gb264, 2, none⟩ = some (.slice Ao10 t256.length co10) := (blk_cell BK264.out 2).trans rfl
       have hcz29_3 : w13.cell? ⟨gb264, 3, none⟩ = some (.int .i64 t259) := (blk_cell BK264.out 3).trans rfl
       have hcz29_4 : w13.cell? ⟨gb264, 4, none⟩ = some (.int .i64 t260) := (blk_cell BK264.out 4).trans rfl
       have hcz29_5 : w13.cell? ⟨gb264, 5, none⟩ = some (.int .i64 t261) := (blk_cell BK264.out 5).trans rfl
       have hcz29_6 : w13.cell? ⟨gb264, 6, none⟩ = some (.int .i64 t262) := (blk_cell BK264.out 6).trans rfl
       have hfz29_0 := blk_frozen BK264.out 0
       have hfz29_1 := blk_frozen BK264.out 1
       have hfz29_2 := blk_frozen BK264.out 2
       have hfz29_3 := blk_frozen BK264.out 3
       have hfz29_4 := blk_frozen BK264.out 4
       have hfz29_5 := blk_frozen BK264.out 5
       have hfz29_6 := blk_frozen BK264.out 6
       go_wp2_with (first | ((with_reducible refine gate_callee (f := 21) rfl ?_); refine goesL_ (some 19) rfl rfl Try.func21 (by kernel_rfl) rfl #[.agg #[.int .i64 t254, .bool t255, .slice Ao10 t256.length co10, .int .i64 t259, .int .i64 t260, .int .i64 t261, .int .i64 t262], .int .i64 t263] rfl (by (try simp only [List.map_toArray, List.map_cons, List.map_nil]); first | done | rfl | (simp only [List.length_drop, List.length_take]; rfl)) ?_; (with_reducible refine (spec_ClassHas.calls k t254 t255 _ _ t256 t259 t260 t261 t262 t263 t266 _ ?side1 ?side2 A14.out).mono ?_); (case side1 => repeat (first | exact (Kd.R_reads' HO258.out).2.2 | (with_reducible refine Kd.C_alloc ?_ _) | (with_reducible refine Kd.C_drewN ?_ _) | (with_reducible refine Kd.C_drew ?_))); (case side2 => exact (Kd.R_reads' HO258.out).2.1); rintro e w30 ⟨rfl, hb⟩; refine ⟨_, rfl, ?_⟩; have n0_ := Aside0.mk (Kd.R_below (by (with_reducible repeat (first | apply Kd.R_alloc | apply Kd.R_drewN | apply Kd.R_drew)); exact HO258.out) hb); have n1_ := Aside0.mk (blk_below (g := gb264) (o := .cells #[.int .i64 t254, .bool t255, .slice Ao10 t256.length co10, .int .i64 t259, .int .i64 t260, .int .i64 t261, .int .i64 t262] 41 (0, 0)) (by (with_reducible repeat (first | refine blk_drewN ?_ _ | refine blk_drew ?_ | refine blk_alloc ?_ _)); exact BK264.out) hb); have n2_ := Aside0.mk (below_step (by repeat (first | (with_reducible first | exact HB.out | apply below_alloc | apply pw_below_drewN | apply below_drew1 | refine below_set ?_ GE264.out) | exact HB.out)) hb); clear HO258; clear BK264; clear HB; have HO258 := n0_; have BK264 := n1_; have HB := n2_; clear n0_ n1_ n2_; (try clear hb); (try clear hb2); (try clear hk); (try clear hi); have hcz31_0 : w30.cell? ⟨gb264, 0, none⟩ = some (.int .i64 t254) := (blk_cell BK264.out 0).trans rfl; have hcz31_1 : w30.cell? ⟨gb264, 1, none⟩ = some (.bool t255) := (blk_cell BK264.out 1).trans rfl; have hcz31_2 : w30.cell? ⟨gb264, 2, none⟩ = some (.slice Ao10 t256.length co10) := (blk_cell BK264.out 2).trans rfl; have hcz31_3 : w30.cell? ⟨gb264, 3, none⟩ = some (.int .i64 t259) := (blk_cell BK264.out 3).trans rfl; have hcz31_4 : w30.cell? ⟨gb264, 4, none⟩ = some (.int .i64 t260) := (blk_cell BK264.out 4).trans rfl; have hcz31_5 : w30.cell? ⟨gb264, 5, none⟩ = some (.int .i64 t261) := (blk_cell BK264.out 5).trans rfl; have hcz31_6 : w30.cell? ⟨gb264, 6, none⟩ = some (.int .i64 t262) := (blk_cell BK264.out 6).trans rfl; have hfz31_0 := blk_frozen BK264.out 0; have hfz31_1 := blk_frozen BK264.out 1; have hfz31_2 := blk_frozen BK264.out 2; have hfz31_3 := blk_frozen BK264.out 3; have hfz31_4 := blk_frozen BK264.out 4; have hfz31_5 := blk_frozen BK264.out 5; have hfz31_6 := blk_frozen BK264.out 6) | ((with_reducible refine gate_dst (N := 28) rfl ?_); (try (refine gate_guard (by rfl) ?_; dsimp only)); refine Kd.N_lit k41 _ 41 ?hg (N' := 28) ?hd (xs := ([(⟨t254, t255, t256, t259, t260, t261, t262⟩ : S41)] : List (S41))) (inner := [.int .i64 t254, .bool t255, .slice Ao10 t256.length co10, .int .i64 t259, .int .i64 t260, .int .i64 t261, .int .i64 t262]) (ok := (fun k_ => k_ ≠ gb264)) (okp := (fun k_ => k_ ≠ gb264)) ?hr ?hp (fun _ hk => hk) ((show ∀ k_, w30.heap.size ≤ k_ → (fun k_ => k_ ≠ gb264) k_ from fun k_ hk => Kd.freshB (g := gb264) (o := .cells #[.int .i64 t254, .bool t255, .slice Ao10 t256.length co10, .int .i64 t259, .int .i64 t260, .int .i64 t261, .int .i64 t262] 41 (0, 0)) (by (with_reducible repeat (first | refine blk_drewN ?_ _ | refine blk_drew ?_ | refine blk_alloc ?_ _)); exact BK264.out) k_ hk) _ (Nat.le_refl _)) (Below.refl _ _) (Nat.le_refl _) (by simp) ?_; (case hd => rfl); (case hg => rfl); (case hr => first | (go_simp; done) | (go_simp; rfl)); (case hp => exact (Reps.c7 (show Kd.FK k41 _ _ (⟨t254, t255, t256, t259, t260, t261, t262⟩ : S41) [.int .i64 t254, .bool t255, .slice Ao10 t256.length co10, .int .i64 t259, .int .i64 t260, .int .i64 t261, .int .i64 t262] from (k41_mkF _ _ (⟨t254, t255, t256, t259, t260, t261, t262⟩ : S41) (Kd.R_reads' (Kd.R_mono (ok' := (fun k_ => k_ ≠ gb264)) (Kd.R_types (HO258.out) BK264.out (by decide)) (fun k_ hk => hk.2))).2.1 (Kd.R_F (Kd.R_mono (ok' := (fun k_ => k_ ≠ gb264)) (Kd.R_types (HO258.out) BK264.out (by decide)) (fun k_ hk => hk.2))))) (Reps.none _ _))); intro v268 w32 ho33 hb hg_ hnew_; clear hg_ hnew_; (first | rw [← Ny267.out] at ho33 | (simp only [Int.reduceToNat] at ho33; rw [← Ny267.out] at ho33)); have n0_ := Aside0.mk (Kd.N_lower ho33 (below_size (by repeat (first | (with_reducible first | exact HB.out | apply below_alloc | apply pw_below_drewN | apply below_drew1 | refine below_set ?_ GE264.out) | exact HB.out)))); have n1_ := Aside0.mk (blk_below (g := gb264) (o := .cells #[.int .i64 t254, .bool t255, .slice Ao10 t256.length co10, .int .i64 t259, .int .i64 t260, .int .i64 t261, .int .i64 t262] 41 (0, 0)) (by (with_reducible repeat (first | refine blk_drewN ?_ _ | refine blk_drew ?_ | refine blk_alloc ?_ _)); exact BK264.out) hb); have n2_ := Aside0.mk (below_step (by repeat (first | (with_reducible first | exact HB.out | apply below_alloc | apply pw_below_drewN | apply below_drew1 | refine below_set ?_ GE264.out) | exact HB.out)) hb); have m0_ := Aside0.mk (Kd.R_below (by (with_reducible repeat (first | apply Kd.R_alloc | apply Kd.R_drewN | apply Kd.R_drew)); exact HO258.out) hb); clear BK264; clear HB; clear HO258; have HO258 := m0_; clear m0_; have HO269 := n0_; have BK264 := n1_; have HB := n2_; clear n0_ n1_ n2_; clear hb ho33; obtain ⟨Ao34, co34, eo34⟩ := Kd.N_slice HO269.out; subst eo34) | (go_at_call 26; (with_reducible refine (spec_RegexOk.calls k _ _ y267 true _ ?side1 ?side2 A19.out).mono ?_); (case side1 => repeat (first | exact (Kd.N_reads' HO269.out).2.2 | (with_reducible refine Kd.C_alloc ?_ _) | (with_reducible refine Kd.C_drewN ?_ _) | (with_reducible refine Kd.C_drew ?_))); (case side2 => exact (Kd.N_reads' HO269.out).2.1); rintro e w35 ⟨rfl, hb⟩; have n0_ := Aside0.mk (Kd.N_below (by (with_reducible repeat (first | apply Kd.N_alloc | apply Kd.N_drewN | apply Kd.N_drew)); exact HO269.out) hb); have n1_ := Aside0.mk (blk_below (g := gb264) (o := .cells #[.int .i64 t254, .bool t255, .slice Ao10 t256.length co10, .int .i64 t259, .int .i64 t260, .int .i64 t261, .int .i64 t262] 41 (0, 0)) (by (with_reducible repeat (first | refine blk_drewN ?_ _ | refine blk_drew ?_ | refine blk_alloc ?_ _)); exact BK264.out) hb); have n2_ := Aside0.mk (below_step (by repeat (first | (with_reducible first | exact HB.out | apply below_alloc | apply pw_below_drewN | apply below_drew1 | refine below_set ?_ GE264.out) | exact HB.out)) hb); have m0_ := Aside0.mk (Kd.R_below (by (with_reducible repeat (first | apply Kd.R_alloc | apply Kd.R_drewN | apply Kd.R_drew)); exact HO258.out) hb); clear HO258; have HO258 := m0_; clear m0_; clear HO269; clear BK264; clear HB; have HO269 := n0_; have BK264 := n1_; have HB := n2_; clear n0_ n1_ n2_; (try clear hb); (try clear hb2); (try clear hk); (try clear hi)))
       go_meet
       case rel => exact ⟨_, (decide (t263 > 55295)), (by first | rfl | (simp; done) | (simp [*]; done)), H', ⟨by first | omega | exact Nat.le_refl _⟩, ⟨by (with_reducible repeat (first | apply Kd.R_alloc | apply Kd.R_drewN | apply Kd.R_drew)); exact HO258.out⟩, ⟨by (with_reducible repeat (first | refine blk_drewN ?_ _ | refine blk_drew ?_ | refine blk_alloc ?_ _)); exact BK264.out⟩, ⟨by repeat (first | (with_reducible first | exact HB.out | apply below_alloc | apply pw_below_drewN | apply below_drew1 | refine below_set ?_ GE264.out) | exact HB.out)⟩⟩
     ·replace c20 := Bool.eq_false_iff.mpr c20
      subst c20
      have H1 : (laws_FnClass.j0 k t263 t265 true t254 t255 t256 t259 t260 t261 t262) = some r := by rw [if_neg (show ¬ (false = true) by decide)] at H; exact H
      clear H
      have H := H1
      clear H1
      have H' := Aside0.mk H
      clear H
      have hcz36_0 : w13.cell? ⟨gb264, 0, none⟩ = some (.int .i64 t254) := (blk_cell BK264.out 0).trans rfl
      have hcz36_1 : w13.cell? ⟨gb264, 1, none⟩ = some (.bool t255) := (blk_cell BK264.out 1).trans rfl
      have hcz36_2 : w13.cell? ⟨gb264, 2, none⟩ = some (.slice Ao10 t256.length co10) := (blk_cell BK264.out 2).trans rfl
      have hcz36_3 : w13.cell? ⟨gb264, 3, none⟩ = some (.int .i64 t259) := (blk_cell BK264.out 3).trans rfl
      have hcz36_4 : w13.cell? ⟨gb264, 4, none⟩ = some (.int .i64 t260) := (blk_cell BK264.out 4).trans rfl
      have hcz36_5 : w13.cell? ⟨gb264, 5, none⟩ = some (.int .i64 t261) := (blk_cell BK264.out 5).trans rfl
      have hcz36_6 : w13.cell? ⟨gb264, 6, none⟩ = some (.int .i64 t262) := (blk_cell BK264.out 6).trans rfl
      have hfz36_0 := blk_frozen BK264.out 0
      have hfz36_1 := blk_frozen BK264.out 1
      have hfz36_2 := blk_frozen BK264.out 2
      have hfz36_3 := blk_frozen BK264.out 3
      have hfz36_4 := blk_frozen BK264.out 4
      have hfz36_5 := blk_frozen BK264.out 5
      have hfz36_6 := blk_frozen BK264.out 6
      go_wp2_with (first | ((with_reducible refine gate_callee (f := 21) rfl ?_); refine goesL_ (some 19) rfl rfl Try.func21 (by kernel_rfl) rfl #[.agg #[.int .i64 t254, .bool t255, .slice Ao10 t256.length co10, .int .i64 t259, .int .i64 t260, .int .i64 t261, .int .i64 t262], .int .i64 t263] rfl (by (try simp only [List.map_toArray, List.map_cons, List.map_nil]); first | done | rfl | (simp only [List.length_drop, List.length_take]; rfl)) ?_; (with_reducible refine (spec_ClassHas.calls k t254 t255 _ _ t256 t259 t260 t261 t262 t263 t266 _ ?side1 ?side2 A14.out).mono ?_); (case side1 => repeat (first | exact (Kd.R_reads' HO258.out).2.2 | (with_reducible refine Kd.C_alloc ?_ _) | (with_reducible refine Kd.C_drewN ?_ _) | (with_reducible refine Kd.C_drew ?_))); (case side2 => exact (Kd.R_reads' HO258.out).2.1); rintro e w37 ⟨rfl, hb⟩; refine ⟨_, rfl, ?_⟩; have n0_ := Aside0.mk (Kd.R_below (by (with_reducible repeat (first | apply Kd.R_alloc | apply Kd.R_drewN | apply Kd.R_drew)); exact HO258.out) hb); have n1_ := Aside0.mk (blk_below (g := gb264) (o := .cells #[.int .i64 t254, .bool t255, .slice Ao10 t256.length co10, .int .i64 t259, .int .i64 t260, .int .i64 t261, .int .i64 t262] 41 (0, 0)) (by (with_reducible repeat (first | refine blk_drewN ?_ _ | refine blk_drew ?_ | refine blk_alloc ?_ _)); exact BK264.out) hb); have n2_ := Aside0.mk (below_step (by repeat (first | (with_reducible first | exact HB.out | apply below_alloc | apply pw_below_drewN | apply below_drew1 | refine below_set ?_ GE264.out) | exact HB.out)) hb); clear HO258; clear BK264; clear HB; have HO258 := n0_; have BK264 := n1_; have HB := n2_; clear n0_ n1_ n2_; (try clear hb); (try clear hb2); (try clear hk); (try clear hi); have hcz38_0 : w37.cell? ⟨gb264, 0, none⟩ = some (.int .i64 t254) := (blk_cell BK264.out 0).trans rfl; have hcz38_1 : w37.cell? ⟨gb264, 1, none⟩ = some (.bool t255) := (blk_cell BK264.out 1).trans rfl; have hcz38_2 : w37.cell? ⟨gb264, 2, none⟩ = some (.slice Ao10 t256.length co10) := (blk_cell BK264.out 2).trans rfl; have hcz38_3 : w37.cell? ⟨gb264, 3, none⟩ = some (.int .i64 t259) := (blk_cell BK264.out 3).trans rfl; have hcz38_4 : w37.cell? ⟨gb264, 4, none⟩ = some (.int .i64 t260) := (blk_cell BK264.out 4).trans rfl; have hcz38_5 : w37.cell? ⟨gb264, 5, none⟩ = some (.int .i64 t261) := (blk_cell BK264.out 5).trans rfl; have hcz38_6 : w37.cell? ⟨gb264, 6, none⟩ = some (.int .i64 t262) := (blk_cell BK264.out 6).trans rfl; have hfz38_0 := blk_frozen BK264.out 0; have hfz38_1 := blk_frozen BK264.out 1; have hfz38_2 := blk_frozen BK264.out 2; have hfz38_3 := blk_frozen BK264.out 3; have hfz38_4 := blk_frozen BK264.out 4; have hfz38_5 := blk_frozen BK264.out 5; have hfz38_6 := blk_frozen BK264.out 6) | ((with_reducible refine gate_dst (N := 28) rfl ?_); (try (refine gate_guard (by rfl) ?_; dsimp only)); refine Kd.N_lit k41 _ 41 ?hg (N' := 28) ?hd (xs := ([(⟨t254, t255, t256, t259, t260, t261, t262⟩ : S41)] : List (S41))) (inner := [.int .i64 t254, .bool t255, .slice Ao10 t256.length co10, .int .i64 t259, .int .i64 t260, .int .i64 t261, .int .i64 t262]) (ok := (fun k_ => k_ ≠ gb264)) (okp := (fun k_ => k_ ≠ gb264)) ?hr ?hp (fun _ hk => hk) ((show ∀ k_, w37.heap.size ≤ k_ → (fun k_ => k_ ≠ gb264) k_ from fun k_ hk => Kd.freshB (g := gb264) (o := .cells #[.int .i64 t254, .bool t255, .slice Ao10 t256.length co10, .int .i64 t259, .int .i64 t260, .int .i64 t261, .int .i64 t262] 41 (0, 0)) (by (with_reducible repeat (first | refine blk_drewN ?_ _ | refine blk_drew ?_ | refine blk_alloc ?_ _)); exact BK264.out) k_ hk) _ (Nat.le_refl _)) (Below.refl _ _) (Nat.le_refl _) (by simp) ?_; (case hd => rfl); (case hg => rfl); (case hr => first | (go_simp; done) | (go_simp; rfl)); (case hp => exact (Reps.c7 (show Kd.FK k41 _ _ (⟨t254, t255, t256, t259, t260, t261, t262⟩ : S41) [.int .i64 t254, .bool t255, .slice Ao10 t256.length co10, .int .i64 t259, .int .i64 t260, .int .i64 t261, .int .i64 t262] from (k41_mkF _ _ (⟨t254, t255, t256, t259, t260, t261, t262⟩ : S41) (Kd.R_reads' (Kd.R_mono (ok' := (fun k_ => k_ ≠ gb264)) (Kd.R_types (HO258.out) BK264.out (by decide)) (fun k_ hk => hk.2))).2.1 (Kd.R_F (Kd.R_mono (ok' := (fun k_ => k_ ≠ gb264)) (Kd.R_types (HO258.out) BK264.out (by decide)) (fun k_ hk => hk.2))))) (Reps.none _ _))); intro v268 w39 ho40 hb hg_ hnew_; clear hg_ hnew_; (first | rw [← Ny267.out] at ho40 | (simp only [Int.reduceToNat] at ho40; rw [← Ny267.out] at ho40)); have n0_ := Aside0.mk (Kd.N_lower ho40 (below_size (by repeat (first | (with_reducible first | exact HB.out | apply below_alloc | apply pw_below_drewN | apply below_drew1 | refine below_set ?_ GE264.out) | exact HB.out)))); have n1_ := Aside0.mk (blk_below (g := gb264) (o := .cells #[.int .i64 t254, .bool t255, .slice Ao10 t256.length co10, .int .i64 t259, .int .i64 t260, .int .i64 t261, .int .i64 t262] 41 (0, 0)) (by (with_reducible repeat (first | refine blk_drewN ?_ _ | refine blk_drew ?_ | refine blk_alloc ?_ _)); exact BK264.out) hb); have n2_ := Aside0.mk (below_step (by repeat (first | (with_reducible first | exact HB.out | apply below_alloc | apply pw_below_drewN | apply below_drew1 | refine below_set ?_ GE264.out) | exact HB.out)) hb); have m0_ := Aside0.mk (Kd.R_below (by (with_reducible repeat (first | apply Kd.R_alloc | apply Kd.R_drewN | apply Kd.R_drew)); exact HO258.out) hb); clear BK264; clear HB; clear HO258; have HO258 := m0_; clear m0_; have HO269 := n0_; have BK264 := n1_; have HB := n2_; clear n0_ n1_ n2_; clear hb ho40; obtain ⟨Ao41, co41, eo41⟩ := Kd.N_slice HO269.out; subst eo41) | (go_at_call 26; (with_reducible refine (spec_RegexOk.calls k _ _ y267 false _ ?side1 ?side2 A19.out).mono ?_); (case side1 => repeat (first | exact (Kd.N_reads' HO269.out).2.2 | (with_reducible refine Kd.C_alloc ?_ _) | (with_reducible refine Kd.C_drewN ?_ _) | (with_reducible refine Kd.C_drew ?_))); (case side2 => exact (Kd.N_reads' HO269.out).2.1); rintro e w42 ⟨rfl, hb⟩; have n0_ := Aside0.mk (Kd.N_below (by (with_reducible repeat (first | apply Kd.N_alloc | apply Kd.N_drewN | apply Kd.N_drew)); exact HO269.out) hb); have n1_ := Aside0.mk (blk_below (g := gb264) (o := .cells #[.int .i64 t254, .bool t255, .slice Ao10 t256.length co10, .int .i64 t259, .int .i64 t260, .int .i64 t261, .int .i64 t262] 41 (0, 0)) (by (with_reducible repeat (first | refine blk_drewN ?_ _ | refine blk_drew ?_ | refine blk_alloc ?_ _)); exact BK264.out) hb); have n2_ := Aside0.mk (below_step (by repeat (first | (with_reducible first | exact HB.out | apply below_alloc | apply pw_below_drewN | apply below_drew1 | refine below_set ?_ GE264.out) | exact HB.out)) hb); have m0_ := Aside0.mk (Kd.R_below (by (with_reducible repeat (first | apply Kd.R_alloc | apply Kd.R_drewN | apply Kd.R_drew)); exact HO258.out) hb); clear HO258; have HO258 := m0_; clear m0_; clear HO269; clear BK264; clear HB; have HO269 := n0_; have BK264 := n1_; have HB := n2_; clear n0_ n1_ n2_; (try clear hb); (try clear hb2); (try clear hk); (try clear hi)))
      go_meet
      case rel => exact ⟨_, (true), (by first | rfl | (simp; done) | (simp [*]; done)), H', ⟨by first | omega | exact Nat.le_refl _⟩, ⟨by (with_reducible repeat (first | apply Kd.R_alloc | apply Kd.R_drewN | apply Kd.R_drew)); exact HO258.out⟩, ⟨by (with_reducible repeat (first | refine blk_drewN ?_ _ | refine blk_drew ?_ | refine blk_alloc ?_ _)); exact BK264.out⟩, ⟨by repeat (first | (with_reducible first | exact HB.out | apply below_alloc | apply pw_below_drewN | apply below_drew1 | refine below_set ?_ GE264.out) | exact HB.out)⟩⟩
    ·rw [if_neg c18] at H
     have c18b0 : (t254 == 2) = false := beq_eq_false_iff_ne.mpr c18
     have c18b1 : (t254 != 2) = true := bne_iff_ne.mpr c18
     have H' := Aside0.mk H
     clear H
     have hcz43_0 : w13.cell? ⟨gb264, 0, none⟩ = some (.int .i64 t254) := (blk_cell BK264.out 0).trans rfl
     have hcz43_1 : w13.cell? ⟨gb264, 1, none⟩ = some (.bool t255) := (blk_cell BK264.out 1).trans rfl
     have hcz43_2 : w13.cell? ⟨gb264, 2, none⟩ = some (.slice Ao10 t256.length co10) := (blk_cell BK264.out 2).trans rfl
     have hcz43_3 : w13.cell? ⟨gb264, 3, none⟩ = some (.int .i64 t259) := (blk_cell BK264.out 3).trans rfl
     have hcz43_4 : w13.cell? ⟨gb264, 4, none⟩ = some (.int .i64 t260) := (blk_cell BK264.out 4).trans rfl
     have hcz43_5 : w13.cell? ⟨gb264, 5, none⟩ = some (.int .i64 t261) := (blk_cell BK264.out 5).trans rfl
     have hcz43_6 : w13.cell? ⟨gb264, 6, none⟩ = some (.int .i64 t262) := (blk_cell BK264.out 6).trans rfl
     have hfz43_0 := blk_frozen BK264.out 0
     have hfz43_1 := blk_frozen BK264.out 1
     have hfz43_2 := blk_frozen BK264.out 2
     have hfz43_3 := blk_frozen BK264.out 3
     have hfz43_4 := blk_frozen BK264.out 4
     have hfz43_5 := blk_frozen BK264.out 5
     have hfz43_6 := blk_frozen BK264.out 6
     go_wp2_with (first | ((with_reducible refine gate_callee (f := 21) rfl ?_); refine goesL_ (some 19) rfl rfl Try.func21 (by kernel_rfl) rfl #[.agg #[.int .i64 t254, .bool t255, .slice Ao10 t256.length co10, .int .i64 t259, .int .i64 t260, .int .i64 t261, .int .i64 t262], .int .i64 t263] rfl (by (try simp only [List.map_toArray, List.map_cons, List.map_nil]); first | done | rfl | (simp only [List.length_drop, List.length_take]; rfl)) ?_; (with_reducible refine (spec_ClassHas.calls k t254 t255 _ _ t256 t259 t260 t261 t262 t263 t266 _ ?side1 ?side2 A14.out).mono ?_); (case side1 => repeat (first | exact (Kd.R_reads' HO258.out).2.2 | (with_reducible refine Kd.C_alloc ?_ _) | (with_reducible refine Kd.C_drewN ?_ _) | (with_reducible refine Kd.C_drew ?_))); (case side2 => exact (Kd.R_reads' HO258.out).2.1); rintro e w44 ⟨rfl, hb⟩; refine ⟨_, rfl, ?_⟩; have n0_ := Aside0.mk (Kd.R_below (by (with_reducible repeat (first | apply Kd.R_alloc | apply Kd.R_drewN | apply Kd.R_drew)); exact HO258.out) hb); have n1_ := Aside0.mk (blk_below (g := gb264) (o := .cells #[.int .i64 t254, .bool t255, .slice Ao10 t256.length co10, .int .i64 t259, .int .i64 t260, .int .i64 t261, .int .i64 t262] 41 (0, 0)) (by (with_reducible repeat (first | refine blk_drewN ?_ _ | refine blk_drew ?_ | refine blk_alloc ?_ _)); exact BK264.out) hb); have n2_ := Aside0.mk (below_step (by repeat (first | (with_reducible first | exact HB.out | apply below_alloc | apply pw_below_drewN | apply below_drew1 | refine below_set ?_ GE264.out) | exact HB.out)) hb); clear HO258; clear BK264; clear HB; have HO258 := n0_; have BK264 := n1_; have HB := n2_; clear n0_ n1_ n2_; (try clear hb); (try clear hb2); (try clear hk); (try clear hi); have hcz45_0 : w44.cell? ⟨gb264, 0, none⟩ = some (.int .i64 t254) := (blk_cell BK264.out 0).trans rfl; have hcz45_1 : w44.cell? ⟨gb264, 1, none⟩ = some (.bool t255) := (blk_cell BK264.out 1).trans rfl; have hcz45_2 : w44.cell? ⟨gb264, 2, none⟩ = some (.slice Ao10 t256.length co10) := (blk_cell BK264.out 2).trans rfl; have hcz45_3 : w44.cell? ⟨gb264, 3, none⟩ = some (.int .i64 t259) := (blk_cell BK264.out 3).trans rfl; have hcz45_4 : w44.cell? ⟨gb264, 4, none⟩ = some (.int .i64 t260) := (blk_cell BK264.out 4).trans rfl; have hcz45_5 : w44.cell? ⟨gb264, 5, none⟩ = some (.int .i64 t261) := (blk_cell BK264.out 5).trans rfl; have hcz45_6 : w44.cell? ⟨gb264, 6, none⟩ = some (.int .i64 t262) := (blk_cell BK264.out 6).trans rfl; have hfz45_0 := blk_frozen BK264.out 0; have hfz45_1 := blk_frozen BK264.out 1; have hfz45_2 := blk_frozen BK264.out 2; have hfz45_3 := blk_frozen BK264.out 3; have hfz45_4 := blk_frozen BK264.out 4; have hfz45_5 := blk_frozen BK264.out 5; have hfz45_6 := blk_frozen BK264.out 6))
     go_meet
     case rel => exact ⟨_, (true), (by first | rfl | (simp; done) | (simp [*]; done)), H', ⟨by first | omega | exact Nat.le_refl _⟩, ⟨by (with_reducible repeat (first | apply Kd.R_alloc | apply Kd.R_drewN | apply Kd.R_drew)); exact HO258.out⟩, ⟨by (with_reducible repeat (first | refine blk_drewN ?_ _ | refine blk_drew ?_ | refine blk_alloc ?_ _)); exact BK264.out⟩, ⟨by repeat (first | (with_reducible first | exact HB.out | apply below_alloc | apply pw_below_drewN | apply below_drew1 | refine below_set ?_ GE264.out) | exact HB.out)⟩⟩
  case rest =>
   clear HC6
   try clear c1
   try clear c2
   try clear p2
   try clear c3
   try clear c7
   try clear c8
   try clear c15
   try clear c15b0
   try clear c15b1
   try clear c15b2
   try clear c18
   try clear c18b0
   try clear c18b1
   try clear c20
   try clear c21
   try clear c21b0
   try clear c23
   try clear c25
   try clear hcz12_0
   try clear hcz12_1
   try clear hcz12_2
   try clear hcz12_3
   try clear hcz12_4
   try clear hcz12_5
   try clear hcz12_6
   try clear hcz16_0
   try clear hcz16_1
   try clear hcz16_2
   try clear hcz16_3
   try clear hcz16_4
   try clear hcz16_5
   try clear hcz16_6
   try clear hcz22_0
   try clear hcz22_1
   try clear hcz22_2
   try clear hcz22_3
   try clear hcz22_4
   try clear hcz22_5
   try clear hcz22_6
   try clear hcz24_0
   try clear hcz24_1
   try clear hcz24_2
   try clear hcz24_3
   try clear hcz24_4
   try clear hcz24_5
   try clear hcz24_6
   try clear hcz29_0
   try clear hcz29_1
   try clear hcz29_2
   try clear hcz29_3
   try clear hcz29_4
   try clear hcz29_5
   try clear hcz29_6
   try clear hcz31_0
   try clear hcz31_1
   try clear hcz31_2
   try clear hcz31_3
   try clear hcz31_4
   try clear hcz31_5
   try clear hcz31_6
   try clear hcz36_0
   try clear hcz36_1
   try clear hcz36_2
   try clear hcz36_3
   try clear hcz36_4
   try clear hcz36_5
   try clear hcz36_6
   try clear hcz38_0
   try clear hcz38_1
   try clear hcz38_2
   try clear hcz38_3
   try clear hcz38_4
   try clear hcz38_5
   try clear hcz38_6
   try clear hcz43_0
   try clear hcz43_1
   try clear hcz43_2
   try clear hcz43_3
   try clear hcz43_4
   try clear hcz43_5
   try clear hcz43_6
   try clear hcz45_0
   try clear hcz45_1
   try clear hcz45_2
   try clear hcz45_3
   try clear hcz45_4
   try clear hcz45_5
   try clear hcz45_6
   try clear hcz9_0
   try clear hcz9_1
   try clear hcz9_2
   try clear hcz9_3
   try clear hcz9_4
   try clear hcz9_5
   try clear hcz9_6
   try clear hfz12_0
   try clear hfz12_1
   try clear hfz12_2
   try clear hfz12_3
   try clear hfz12_4
   try clear hfz12_5
   try clear hfz12_6
   try clear hfz16_0
   try clear hfz16_1
   try clear hfz16_2
   try clear hfz16_3
   try clear hfz16_4
   try clear hfz16_5
   try clear hfz16_6
   try clear hfz22_0
   try clear hfz22_1
   try clear hfz22_2
   try clear hfz22_3
   try clear hfz22_4
   try clear hfz22_5
   try clear hfz22_6
   try clear hfz24_0
   try clear hfz24_1
   try clear hfz24_2
   try clear hfz24_3
   try clear hfz24_4
   try clear hfz24_5
   try clear hfz24_6
   try clear hfz29_0
   try clear hfz29_1
   try clear hfz29_2
   try clear hfz29_3
   try clear hfz29_4
   try clear hfz29_5
   try clear hfz29_6
   try clear hfz31_0
   try clear hfz31_1
   try clear hfz31_2
   try clear hfz31_3
   try clear hfz31_4
   try clear hfz31_5
   try clear hfz31_6
   try clear hfz36_0
   try clear hfz36_1
   try clear hfz36_2
   try clear hfz36_3
   try clear hfz36_4
   try clear hfz36_5
   try clear hfz36_6
   try clear hfz38_0
   try clear hfz38_1
   try clear hfz38_2
   try clear hfz38_3
   try clear hfz38_4
   try clear hfz38_5
   try clear hfz38_6
   try clear hfz43_0
   try clear hfz43_1
   try clear hfz43_2
   try clear hfz43_3
   try clear hfz43_4
   try clear hfz43_5
   try clear hfz43_6
   try clear hfz45_0
   try clear hfz45_1
   try clear hfz45_2
   try clear hfz45_3
   try clear hfz45_4
   try clear hfz45_5
   try clear hfz45_6
   try clear hfz9_0
   try clear hfz9_1
   try clear hfz9_2
   try clear hfz9_3
   try clear hfz9_4
   try clear hfz9_5
   try clear hfz9_6
   obtain ⟨kq, x39_5, rfl, HA, HJ5, HO_265002, BK264, HB⟩ := hcut
   cases kq with
   | zero => exact absurd HA.out (by simp [laws_FnClass.j0])
   | succ kj5 =>
    have H := HA.out
    clear HA
    simp only [laws_FnClass.j0] at H
    by_cases c46 : x39_5 = true
    ·subst c46
     have H1 : ((spec_ClassHas.f kj5 t254 t255 t256 t259 t260 t261 t262 t263).bind fun t271 => (some (t265 == t271))) = some r := by rw [if_pos rfl] at H; exact H
     clear H
     have H := H1
     clear H1
     replace H := Option.bind_eq_some_iff.mp H
     obtain ⟨t271, A470, H⟩ := H
     replace H : (some (t265 == t271)) = some r := H
     have A47 := Aside0.mk A470
     clear A470
     obtain rfl := Option.some.inj H
     have hcz48_0 : wc.cell? ⟨gb264, 0, none⟩ = some (.int .i64 t254) := (blk_cell BK264.out 0).trans rfl
     have hcz48_1 : wc.cell? ⟨gb264, 1, none⟩ = some (.bool t255) := (blk_cell BK264.out 1).trans rfl
     have hcz48_2 : wc.cell? ⟨gb264, 2, none⟩ = some (.slice Ao10 t256.length co10) := (blk_cell BK264.out 2).trans rfl
     have hcz48_3 : wc.cell? ⟨gb264, 3, none⟩ = some (.int .i64 t259) := (blk_cell BK264.out 3).trans rfl
     have hcz48_4 : wc.cell? ⟨gb264, 4, none⟩ = some (.int .i64 t260) := (blk_cell BK264.out 4).trans rfl
     have hcz48_5 : wc.cell? ⟨gb264, 5, none⟩ = some (.int .i64 t261) := (blk_cell BK264.out 5).trans rfl
     have hcz48_6 : wc.cell? ⟨gb264, 6, none⟩ = some (.int .i64 t262) := (blk_cell BK264.out 6).trans rfl
     have hfz48_0 := blk_frozen BK264.out 0
     have hfz48_1 := blk_frozen BK264.out 1
     have hfz48_2 := blk_frozen BK264.out 2
     have hfz48_3 := blk_frozen BK264.out 3
     have hfz48_4 := blk_frozen BK264.out 4
     have hfz48_5 := blk_frozen BK264.out 5
     have hfz48_6 := blk_frozen BK264.out 6
     go_wp2_with (first | ((with_reducible refine gate_callee (f := 21) rfl ?_); refine goesL_ (some 43) rfl rfl Try.func21 (by kernel_rfl) rfl #[.agg #[.int .i64 t254, .bool t255, .slice Ao10 t256.length co10, .int .i64 t259, .int .i64 t260, .int .i64 t261, .int .i64 t262], .int .i64 t263] rfl (by (try simp only [List.map_toArray, List.map_cons, List.map_nil]); first | done | rfl | (simp only [List.length_drop, List.length_take]; rfl)) ?_; (with_reducible refine (spec_ClassHas.calls kj5 t254 t255 _ _ t256 t259 t260 t261 t262 t263 t271 _ ?side1 ?side2 A47.out).mono ?_); (case side1 => repeat (first | exact (Kd.R_reads' HO_265002.out).2.2 | (with_reducible refine Kd.C_alloc ?_ _) | (with_reducible refine Kd.C_drewN ?_ _) | (with_reducible refine Kd.C_drew ?_))); (case side2 => exact (Kd.R_reads' HO_265002.out).2.1); rintro e w49 ⟨rfl, hb⟩; refine ⟨_, rfl, ?_⟩; have n0_ := Aside0.mk (Kd.R_below (by (with_reducible repeat (first | apply Kd.R_alloc | apply Kd.R_drewN | apply Kd.R_drew)); exact HO_265002.out) hb); have n1_ := Aside0.mk (blk_below (g := gb264) (o := .cells #[.int .i64 t254, .bool t255, .slice Ao10 t256.length co10, .int .i64 t259, .int .i64 t260, .int .i64 t261, .int .i64 t262] 41 (0, 0)) (by (with_reducible repeat (first | refine blk_drewN ?_ _ | refine blk_drew ?_ | refine blk_alloc ?_ _)); exact BK264.out) hb); have n2_ := Aside0.mk (below_step (by repeat (first | (with_reducible first | exact HB.out | apply below_alloc | apply pw_below_drewN | apply below_drew1 | refine below_set ?_ GE264.out) | exact HB.out)) hb); clear HO_265002; clear BK264; clear HB; have HO_265002 := n0_; have BK264 := n1_; have HB := n2_; clear n0_ n1_ n2_; (try clear hb); (try clear hb2); (try clear hk); (try clear hi)))
     go_ret
     exact ⟨by first | rfl | (simp [*] <;> rfl), by repeat (first | (with_reducible first | exact HB.out | apply below_alloc | apply pw_below_drewN | apply below_drew1 | refine below_set ?_ GE264.out) | exact HB.out)⟩
    ·replace c46 := Bool.eq_false_iff.mpr c46
     subst c46
     have H1 : ((impl_ClassHas.f kj5 t254 (!t255) t256 t259 t260 t261 t262 t263).bind fun t272 => (some (t272 != t265))) = some r := by rw [if_neg (show ¬ (false = true) by decide)] at H; exact H
     clear H
     have H := H1
     clear H1
     replace H := Option.bind_eq_some_iff.mp H
     obtain ⟨t272, A500, H⟩ := H
     replace H : (some (t272 != t265)) = some r := H
     have A50 := Aside0.mk A500
     clear A500
     obtain rfl := Option.some.inj H
     have hcz51_0 : wc.cell? ⟨gb264, 0, none⟩ = some (.int .i64 t254) := (blk_cell BK264.out 0).trans rfl
     have hcz51_1 : wc.cell? ⟨gb264, 1, none⟩ = some (.bool t255) := (blk_cell BK264.out 1).trans rfl
     have hcz51_2 : wc.cell? ⟨gb264, 2, none⟩ = some (.slice Ao10 t256.length co10) := (blk_cell BK264.out 2).trans rfl
     have hcz51_3 : wc.cell? ⟨gb264, 3, none⟩ = some (.int .i64 t259) := (blk_cell BK264.out 3).trans rfl
     have hcz51_4 : wc.cell? ⟨gb264, 4, none⟩ = some (.int .i64 t260) := (blk_cell BK264.out 4).trans rfl
     have hcz51_5 : wc.cell? ⟨gb264, 5, none⟩ = some (.int .i64 t261) := (blk_cell BK264.out 5).trans rfl
     have hcz51_6 : wc.cell? ⟨gb264, 6, none⟩ = some (.int .i64 t262) := (blk_cell BK264.out 6).trans rfl
     have hfz51_0 := blk_frozen BK264.out 0
     have hfz51_1 := blk_frozen BK264.out 1
     have hfz51_2 := blk_frozen BK264.out 2
     have hfz51_3 := blk_frozen BK264.out 3
     have hfz51_4 := blk_frozen BK264.out 4
     have hfz51_5 := blk_frozen BK264.out 5
     have hfz51_6 := blk_frozen BK264.out 6
     go_wp2_with (first | ((with_reducible refine gate_callee (f := 23) rfl ?_); refine goesL_ (some 51) rfl rfl Try.func23 (by kernel_rfl) rfl #[.agg #[.int .i64 t254, .bool (!t255), .slice Ao10 t256.length co10, .int .i64 t259, .int .i64 t260, .int .i64 t261, .int .i64 t262], .int .i64 t263] rfl (by (try simp only [List.map_toArray, List.map_cons, List.map_nil]); first | done | rfl | (simp only [List.length_drop, List.length_take]; rfl)) ?_; (with_reducible refine (impl_ClassHas.calls kj5 t254 (!t255) _ _ t256 t259 t260 t261 t262 t263 t272 _ ?side1 ?side2 A50.out).mono ?_); (case side1 => refine (Kd.R_reads' (e := 68) (base := w.heap.size) (ok := fun k_ => True) (n := t256.length) (c := co10) ?_).2.2; exact (by (with_reducible repeat (first | apply Kd.R_alloc | apply Kd.R_drewN | apply Kd.R_drew)); exact (Kd.R_mono (Kd.R_far (p := ⟨gb264, 1, none⟩) (Kd.R_types HO_265002.out BK264.out (by decide)) (fun _ hk => hk.2) (.bool (!t255))) (fun _ h_ => h_.1)))); (case side2 => exact (Kd.R_reads' HO_265002.out).2.1); rintro e w52 ⟨rfl, hb⟩; refine ⟨_, rfl, ?_⟩; have n0_ := Aside0.mk (Kd.R_below (by (with_reducible repeat (first | apply Kd.R_alloc | apply Kd.R_drewN | apply Kd.R_drew)); exact (Kd.R_mono (Kd.R_far (p := ⟨gb264, 1, none⟩) (Kd.R_types HO_265002.out BK264.out (by decide)) (fun _ hk => hk.2) (.bool (!t255))) (fun _ h_ => h_.1))) hb); have n1_ := Aside0.mk (blk_below (g := gb264) (o := .cells #[.int .i64 t254, .bool (!t255), .slice Ao10 t256.length co10, .int .i64 t259, .int .i64 t260, .int .i64 t261, .int .i64 t262] 41 (0, 0)) (by (with_reducible repeat (first | refine blk_drewN ?_ _ | refine blk_drew ?_ | refine blk_alloc ?_ _)); refine blk_put (cs := #[.int .i64 t254, .bool t255, .slice Ao10 t256.length co10, .int .i64 t259, .int .i64 t260, .int .i64 t261, .int .i64 t262]) ?_ 1 _ rfl; (with_reducible repeat (first | refine blk_drewN ?_ _ | refine blk_drew ?_ | refine blk_alloc ?_ _)); exact BK264.out) hb); have n2_ := Aside0.mk (below_step (by repeat (first | (with_reducible first | exact HB.out | apply below_alloc | apply pw_below_drewN | apply below_drew1 | refine below_set ?_ GE264.out) | exact HB.out)) hb); clear HO_265002; clear BK264; clear HB; have HO_265002 := n0_; have BK264 := n1_; have HB := n2_; clear n0_ n1_ n2_; (try clear hb); (try clear hb2); (try clear hk); (try clear hi)))
     go_ret
     exact ⟨by first | rfl | (simp [*] <;> rfl), by repeat (first | (with_reducible first | exact HB.out | apply below_alloc | apply pw_below_drewN | apply below_drew1 | refine below_set ?_ GE264.out) | exact HB.out)⟩

/-- THE ONE PURE STATEMENT of laws_FnClass: yours. -/
def laws_FnClass.Pure : Prop := ∀ (l0 : List Int), l0.length ≤ maxLen → l0.length * 1 ≤ 140737488351232 → (∀ x ∈ l0, (Lit.int .u8 x).wf = true) → ∃ k, laws_FnClass.f k l0 = some true
theorem laws_FnClass.walk (P : laws_FnClass.Pure) (a0 : Option Addr) (len0 cap0 : Nat) (z0 : List Int) (w : World) (w0 : (a0 = none ∧ len0 = 0 ∧ cap0 = 0 ∧ z0 = []) ∨ ∃ x, a0 = some x ∧ len0 ≤ cap0 ∧ cap0 ≤ maxLen ∧ z0.length = cap0 ∧ (∀ i, i < z0.length → w.cell? (x.add i) = some (.int .u8 (z0.getD i 0))) ∧ ∀ n ∈ z0, (Lit.int .u8 n).wf = true) (y0 : len0 * 1 ≤ 140737488351232) :
  Calls Try.prog 8 #[.slice a0 len0 cap0] w fun e w' => e = .returned (.bool true) ∧ Below w.heap.size w w' := by
 obtain ⟨l0, rfl, hr0, hm0, hw0, hc0⟩ := ReadsInt.ofRowC w0
 obtain ⟨k, h⟩ := P l0 hm0 y0 hw0
 refine (laws_FnClass.calls k _ _ l0 true w (Kd.C_of_reads (d := (0 : Int)) (h1 := fun _ => rfl) hr0) hc0 h).mono ?_
 rintro e w' ⟨rfl, hd⟩
 exact ⟨rfl, hd⟩

end Go.Proofs.Ytomfhenoblfckaa.PK
