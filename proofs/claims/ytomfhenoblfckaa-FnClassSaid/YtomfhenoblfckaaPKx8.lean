-- Printed by this session's pdrive.py over the kit's printer.
import Derived.Test.YtomfhenoblfckaaPKx0
namespace Go.Proofs.Ytomfhenoblfckaa.PK
open Go.RowKit Go.Proofs.YtomfhenoblfckaaW.PrintWords Go.Proofs.YtomfhenoblfckaaW.PrintLast Go.Proofs.YtomfhenoblfckaaW.PrintMore Go.Proofs.YtomfhenoblfckaaW.WordsB
attribute [local go_sem] max2_int min2_int max_two min_two max_three min_three max_four min_four   -- for this text's walks alone
set_option linter.unusedVariables false
set_option linter.unusedSimpArgs false

/-! ### spec_l6Tree: function 53 -/
mutual
def spec_l6Tree.j0 : Nat → List (S41) → Int → Int → Bool → Option (Int)
 | 0, _, _, _, _ => none
 | k + 1, x0, x1, x12, x13 => if x13 = true then (if 0 ≤ x1 then (if x1 < (x0.length : Int) then (if ((rd_T41 x0 x1).f4) = (wrap64 (x1 - 1)) then ((spec_l6Tree.f k x0 (wrap64 (x1 - 1))).bind fun t239 => (if t239 < 1 then (some (-1)) else (if ((rd_T41 x0 x1).f3) = (wrap64 (t239 - 1)) then ((spec_l6Tree.f k x0 (wrap64 (t239 - 1))).bind fun t241 => (some t241)) else (some (-1))))) else (some (-1))) else (none)) else (none)) else (if x12 = 5 then (if 0 ≤ x1 then (if x1 < (x0.length : Int) then (if ((rd_T41 x0 x1).f3) = (wrap64 (x1 - 1)) then ((spec_l6Tree.f k x0 (wrap64 (x1 - 1))).bind fun t243 => (some t243)) else (some (-1))) else (none)) else (none)) else (some x1))
def spec_l6Tree.f : Nat → List (S41) → Int → Option (Int)
 | 0, _, _ => none
 | k + 1, l0, a1 => if a1 < 0 then (some (-1)) else (if 0 ≤ a1 then (if a1 < (l0.length : Int) then (if ((rd_T41 l0 a1).f0) = 3 then (spec_l6Tree.j0 k l0 a1 ((rd_T41 l0 a1).f0) (((rd_T41 l0 a1).f0) == 3)) else (spec_l6Tree.j0 k l0 a1 ((rd_T41 l0 a1).f0) (((rd_T41 l0 a1).f0) == 4))) else (none)) else (none))
end
theorem spec_l6Tree.mono_l : ∀ k, (∀ y0 y1, LeO (spec_l6Tree.f k y0 y1) (spec_l6Tree.f (k + 1) y0 y1)) ∧ (∀ y0 y1 y2 y3, LeO (spec_l6Tree.j0 k y0 y1 y2 y3) (spec_l6Tree.j0 (k + 1) y0 y1 y2 y3))
 | 0 => ⟨fun _ _ r h => by simp [spec_l6Tree.f] at h, fun _ _ _ _ r h => by simp [spec_l6Tree.j0] at h⟩
 | k + 1 => by
  obtain ⟨ih0, ih1⟩ := spec_l6Tree.mono_l k
  refine ⟨?_, ?_⟩
  ·intro y0 y1
   unfold spec_l6Tree.f
   repeat' first
   | (with_reducible exact ih0 _ _)
   | (with_reducible exact ih1 _ _ _ _)
   | (with_reducible exact LeO.refl _)
   | (with_reducible exact LeO.none _)
   | (with_reducible refine LeO.ite ?_ ?_)
   | (with_reducible refine LeO.bind ?_ (fun _ => ?_))
   | exact ih0 _ _
   | exact ih1 _ _ _ _
   | exact LeO.none _
   | refine LeO.ite ?_ ?_
   | refine LeO.bind ?_ (fun _ => ?_)
  ·intro y0 y1 y2 y3
   unfold spec_l6Tree.j0
   repeat' first
   | (with_reducible exact ih0 _ _)
   | (with_reducible exact ih1 _ _ _ _)
   | (with_reducible exact LeO.refl _)
   | (with_reducible exact LeO.none _)
   | (with_reducible refine LeO.ite ?_ ?_)
   | (with_reducible refine LeO.bind ?_ (fun _ => ?_))
   | exact ih0 _ _
   | exact ih1 _ _ _ _
   | exact LeO.none _
   | refine LeO.ite ?_ ?_
   | refine LeO.bind ?_ (fun _ => ?_)
theorem spec_l6Tree.mono : ∀ a0 a1 k, LeO (spec_l6Tree.f k a0 a1) (spec_l6Tree.f (k + 1) a0 a1) := by
 intro a0 a1 k
 obtain ⟨ih0, ih1⟩ := spec_l6Tree.mono_l k
 exact ih0 a0 a1
set_option maxHeartbeats 8000000 in
set_option maxRecDepth 100000 in
theorem spec_l6Tree.calls (k : Nat) : ∀ (A0 : Option Addr) (c0 : Nat) (l0 : List (S41)) (a1 : Int) (r : Int) (w : World) (hr0 : Kd.C k41 w A0 l0.length l0) (hc0 : l0.length ≤ c0) (h : spec_l6Tree.f k l0 a1 = some r),
  Calls Try.prog 53 #[.slice A0 l0.length c0, .int .i64 a1] w fun e w' => e = .returned (.int .i64 r) ∧ Drawn0 w w' := by
 induction k using Nat.strongRecOn with
 | _ k ih =>
 intro A0 c0 l0 a1 r w hr0 hc0 h
 cases k with
 | zero => exact absurd h (by simp [spec_l6Tree.f])
 | succ k =>
 simp only [spec_l6Tree.f] at h
 have HR0 := Aside0.mk hr0
 have HC0 := Aside0.mk hc0
 clear hr0 hc0
 have H : (if a1 < 0 then (some (-1)) else (if 0 ≤ a1 then (if a1 < (l0.length : Int) then (if ((rd_T41 l0 a1).f0) = 3 then (spec_l6Tree.j0 k l0 a1 ((rd_T41 l0 a1).f0) (((rd_T41 l0 a1).f0) == 3)) else (spec_l6Tree.j0 k l0 a1 ((rd_T41 l0 a1).f0) (((rd_T41 l0 a1).f0) == 4))) else (none)) else (none))) = some r := h
 clear h
 by_cases c3 : a1 < 0
 ·rw [if_pos c3] at H
  have c3b0 : decide (a1 < 0) = true := decide_eq_true c3
  clear c3
  obtain rfl := Option.some.inj H
  go_enter Try.func53, Try.ntmps53
  go_wp2
  go_ret
  exact ⟨by first | rfl | (simp; done) | (simp [*]; done), by repeat (first | exact Drawn0.refl _ | apply Drawn0.step)⟩
 ·rw [if_neg c3] at H
  have c3b0 : decide (a1 < 0) = false := decide_eq_false c3
  clear c3
  by_cases c4 : 0 ≤ a1
  ·rw [if_pos c4] at H
   have c4b0 : decide (0 ≤ a1) = true := decide_eq_true c4
   clear c4
   by_cases c5 : a1 < (l0.length : Int)
   ·rw [if_pos c5] at H
    have c5b0 : decide (a1 < (l0.length : Int)) = true := decide_eq_true c5
    clear c5
    have HC6 := Aside0.mk H
    clear H
    have p237 : 0 ≤ (a1 : Int) := of_decide_eq_true (by first | (with_reducible assumption) | assumption)
    have q237 : a1 < (l0.length : Int) := of_decide_eq_true (by first | (with_reducible assumption) | assumption)
    obtain ⟨ad237, A237_2, c237_2, e237, hx237_0, hx237_1, hx237_2, hx237_3, hx237_4, hx237_5, hx237_6, hl237_2, hi237_2⟩ := at_T41 HR0.out a1 p237 q237
    cases e237
    have HR237_2 := Aside0.mk hi237_2
    have HC237_2 := Aside0.mk hl237_2
    clear hi237_2 hl237_2
    replace p237 := eq_true p237
    replace q237 := eq_true q237
    go_enter Try.func53, Try.ntmps53
    go_upto_if 13 with (fail)
    go_cut [13] (fun v13 wc => ∃ (kq : Nat) (x13_5 : Bool), v13 = .bool x13_5 ∧ Aside0 (spec_l6Tree.j0 kq l0 a1 ((rd_T41 l0 a1).f0) x13_5 = some r) ∧ Aside0 (kq ≤ k) ∧ Drawn0 w wc)
    case first =>
     have H := HC6.out
     clear HC6
     by_cases c7 : ((rd_T41 l0 a1).f0) = 3
     ·rw [if_pos c7] at H
      have c7b0 : (((rd_T41 l0 a1).f0) == 3) = true := beq_iff_eq.mpr c7
      have c7b1 : (((rd_T41 l0 a1).f0) != 3) = false := bne_eq_false_iff_eq.mpr c7
      clear c7
      (first | rw [c7b0] | (simp only [i64_w, i32_w]; rw [c7b0]) | skip)
      have H' := Aside0.mk H
      clear H
      go_wp2
      go_meet
      case rel => exact ⟨_, ((((rd_T41 l0 a1).f0) == 3)), (by first | rfl | (simp; done) | (simp [*]; done)), H', ⟨by first | omega | exact Nat.le_refl _⟩, by repeat (first | exact Drawn0.refl _ | apply Drawn0.step)⟩
     ·rw [if_neg c7] at H
      have c7b0 : (((rd_T41 l0 a1).f0) == 3) = false := beq_eq_false_iff_ne.mpr c7
      have c7b1 : (((rd_T41 l0 a1).f0) != 3) = true := bne_iff_ne.mpr c7
      (first | rw [c7b0] | (simp only [i64_w, i32_w]; rw [c7b0]) | skip)
      have H' := Aside0.mk H
      clear H
      go_wp2
      go_meet
      case rel => exact ⟨_, ((((rd_T41 l0 a1).f0) == 4)), (by first | rfl | (simp; done) | (simp [*]; done)), H', ⟨by first | omega | exact Nat.le_refl _⟩, by repeat (first | exact Drawn0.refl _ | apply Drawn0.step)⟩
    case rest =>
     clear HC6
     try clear c2
     try clear p2
     try clear q2
     try clear hx2
     try clear c3
     try clear c3b0
     try clear c4
     try clear c4b0
     try clear c5
     try clear c5b0
     try clear c7
     try clear c7b0
     try clear c7b1
     try clear hx237_0
     try clear hx237_1
     try clear hx237_2
     try clear hx237_3
     try clear hx237_4
     try clear hx237_5
     try clear hx237_6
     try clear p237
     try clear q237
     obtain ⟨kq, x13_5, rfl, HA, HJ5, ⟨mc5, rfl⟩⟩ := hcut
     cases kq with
     | zero => exact absurd HA.out (by simp [spec_l6Tree.j0])
     | succ kj5 =>
      have H := HA.out
      clear HA
      simp only [spec_l6Tree.j0] at H
      by_cases c8 : x13_5 = true
      ·subst c8
       have H1 : (if 0 ≤ a1 then (if a1 < (l0.length : Int) then (if ((rd_T41 l0 a1).f4) = (wrap64 (a1 - 1)) then ((spec_l6Tree.f kj5 l0 (wrap64 (a1 - 1))).bind fun t239 => (if t239 < 1 then (some (-1)) else (if ((rd_T41 l0 a1).f3) = (wrap64 (t239 - 1)) then ((spec_l6Tree.f kj5 l0 (wrap64 (t239 - 1))).bind fun t241 => (some t241)) else (some (-1))))) else (some (-1))) else (none)) else (none)) = some r := by rw [if_pos rfl] at H; exact H
       clear H
       have H := H1
       clear H1
       by_cases c9 : 0 ≤ a1
       ·rw [if_pos c9] at H
        have c9b0 : decide (0 ≤ a1) = true := decide_eq_true c9
        clear c9
        by_cases c10 : a1 < (l0.length : Int)
        ·rw [if_pos c10] at H
         have c10b0 : decide (a1 < (l0.length : Int)) = true := decide_eq_true c10
         clear c10
         by_cases c11 : ((rd_T41 l0 a1).f4) = (wrap64 (a1 - 1))
         ·rw [if_pos c11] at H
          have c11b0 : (((rd_T41 l0 a1).f4) == (wrap64 (a1 - 1))) = true := beq_iff_eq.mpr c11
          have c11b1 : (((rd_T41 l0 a1).f4) != (wrap64 (a1 - 1))) = false := bne_eq_false_iff_eq.mpr c11
          clear c11
          replace H := Option.bind_eq_some_iff.mp H
          obtain ⟨t239, A120, H⟩ := H
          replace H : (if t239 < 1 then (some (-1)) else (if ((rd_T41 l0 a1).f3) = (wrap64 (t239 - 1)) then ((spec_l6Tree.f kj5 l0 (wrap64 (t239 - 1))).bind fun t241 => (some t241)) else (some (-1)))) = some r := H
          have A12 := Aside0.mk A120
          clear A120
          by_cases c13 : t239 < 1
          ·rw [if_pos c13] at H
           have c13b0 : decide (t239 < 1) = true := decide_eq_true c13
           clear c13
           obtain rfl := Option.some.inj H
           have p238 : 0 ≤ (a1 : Int) := of_decide_eq_true (by first | (with_reducible assumption) | assumption)
           have q238 : a1 < (l0.length : Int) := of_decide_eq_true (by first | (with_reducible assumption) | assumption)
           obtain ⟨ad238, A238_2, c238_2, e238, hx238_0, hx238_1, hx238_2, hx238_3, hx238_4, hx238_5, hx238_6, hl238_2, hi238_2⟩ := at_T41 HR0.out a1 p238 q238
           obtain rfl : ad237 = ad238 := (by injection e238)
           have HR238_2 := Aside0.mk hi238_2
           have HC238_2 := Aside0.mk hl238_2
           clear hi238_2 hl238_2
           replace p238 := eq_true p238
           replace q238 := eq_true q238
           go_wp2_with (first | ((with_reducible refine gate_callee (f := 53) rfl ?_); refine goesL_ (some 27) rfl rfl Try.func53 (by kernel_rfl) rfl #[.slice (some ad237) l0.length c0, .int .i64 (wrap64 (a1 - 1))] rfl (by (try simp only [List.map_toArray, List.map_cons, List.map_nil]); first | done | rfl | (simp only [List.length_drop, List.length_take]; rfl)) ?_; (with_reducible refine (ih kj5 (by have := HJ5.out; omega) _ _ l0 (wrap64 (a1 - 1)) t239 _ ?side1 ?side2 A12.out).mono ?_); (case side1 => repeat (first | exact HR0.out | (with_reducible refine Kd.C_alloc ?_ _) | (with_reducible refine Kd.C_drewN ?_ _) | (with_reducible refine Kd.C_drew ?_))); (case side2 => exact HC0.out); rintro e w' ⟨rfl, ⟨nd, rfl⟩⟩; refine ⟨_, rfl, ?_⟩))
           go_ret
           exact ⟨by first | rfl | (simp; done) | (simp [*]; done), by repeat (first | exact Drawn0.refl _ | apply Drawn0.step)⟩
          ·rw [if_neg c13] at H
           have c13b0 : decide (t239 < 1) = false := decide_eq_false c13
           clear c13
           by_cases c14 : ((rd_T41 l0 a1).f3) = (wrap64 (t239 - 1))
           ·rw [if_pos c14] at H
            have c14b0 : (((rd_T41 l0 a1).f3) == (wrap64 (t239 - 1))) = true := beq_iff_eq.mpr c14
            have c14b1 : (((rd_T41 l0 a1).f3) != (wrap64 (t239 - 1))) = false := bne_eq_false_iff_eq.mpr c14
            clear c14
            replace H := Option.bind_eq_some_iff.mp H
            obtain ⟨t241, A150, H⟩ := H
            replace H : (some t241) = some r := H
            have A15 := Aside0.mk A150
            clear A150
            obtain rfl := Option.some.inj H
            have p238 : 0 ≤ (a1 : Int) := of_decide_eq_true (by first | (with_reducible assumption) | assumption)
            have q238 : a1 < (l0.length : Int) := of_decide_eq_true (by first | (with_reducible assumption) | assumption)
            obtain ⟨ad238, A238_2, c238_2, e238, hx238_0, hx238_1, hx238_2, hx238_3, hx238_4, hx238_5, hx238_6, hl238_2, hi238_2⟩ := at_T41 HR0.out a1 p238 q238
            obtain rfl : ad237 = ad238 := (by injection e238)
            have HR238_2 := Aside0.mk hi238_2
            have HC238_2 := Aside0.mk hl238_2
            clear hi238_2 hl238_2
            replace p238 := eq_true p238
            replace q238 := eq_true q238
            go_wp2_with (first | ((with_reducible refine gate_callee (f := 53) rfl ?_); refine goesL_ (some 27) rfl rfl Try.func53 (by kernel_rfl) rfl #[.slice (some ad237) l0.length c0, .int .i64 (wrap64 (a1 - 1))] rfl (by (try simp only [List.map_toArray, List.map_cons, List.map_nil]); first | done | rfl | (simp only [List.length_drop, List.length_take]; rfl)) ?_; (with_reducible refine (ih kj5 (by have := HJ5.out; omega) _ _ l0 (wrap64 (a1 - 1)) t239 _ ?side1 ?side2 A12.out).mono ?_); (case side1 => repeat (first | exact HR0.out | (with_reducible refine Kd.C_alloc ?_ _) | (with_reducible refine Kd.C_drewN ?_ _) | (with_reducible refine Kd.C_drew ?_))); (case side2 => exact HC0.out); rintro e w' ⟨rfl, ⟨nd, rfl⟩⟩; refine ⟨_, rfl, ?_⟩; have p240 : 0 ≤ (a1 : Int) := of_decide_eq_true (by first | (with_reducible assumption) | assumption); have q240 : a1 < (l0.length : Int) := of_decide_eq_true (by first | (with_reducible assumption) | assumption); obtain ⟨ad240, A240_2, c240_2, e240, hx240_0, hx240_1, hx240_2, hx240_3, hx240_4, hx240_5, hx240_6, hl240_2, hi240_2⟩ := at_T41 HR0.out a1 p240 q240; obtain rfl : ad237 = ad240 := (by injection e240); have HR240_2 := Aside0.mk hi240_2; have HC240_2 := Aside0.mk hl240_2; clear hi240_2 hl240_2; replace p240 := eq_true p240; replace q240 := eq_true q240; have ea_ := Option.some.inj (hx238_2.symm.trans hx240_2); injection ea_ with ea_ en_ ec_; subst ea_; subst ec_; clear en_) | ((with_reducible refine gate_callee (f := 53) rfl ?_); refine goesL_ (some 43) rfl rfl Try.func53 (by kernel_rfl) rfl #[.slice (some ad237) l0.length c0, .int .i64 (wrap64 (t239 - 1))] rfl (by (try simp only [List.map_toArray, List.map_cons, List.map_nil]); first | done | rfl | (simp only [List.length_drop, List.length_take]; rfl)) ?_; (with_reducible refine (ih kj5 (by have := HJ5.out; omega) _ _ l0 (wrap64 (t239 - 1)) t241 _ ?side1 ?side2 A15.out).mono ?_); (case side1 => repeat (first | exact HR0.out | (with_reducible refine Kd.C_alloc ?_ _) | (with_reducible refine Kd.C_drewN ?_ _) | (with_reducible refine Kd.C_drew ?_))); (case side2 => exact HC0.out); rintro e w' ⟨rfl, ⟨nd, rfl⟩⟩; refine ⟨_, rfl, ?_⟩))
            go_ret
            exact ⟨by first | rfl | (simp; done) | (simp [*]; done), by repeat (first | exact Drawn0.refl _ | apply Drawn0.step)⟩
           ·rw [if_neg c14] at H
            have c14b0 : (((rd_T41 l0 a1).f3) == (wrap64 (t239 - 1))) = false := beq_eq_false_iff_ne.mpr c14
            have c14b1 : (((rd_T41 l0 a1).f3) != (wrap64 (t239 - 1))) = true := bne_iff_ne.mpr c14
            obtain rfl := Option.some.inj H
            have p238 : 0 ≤ (a1 : Int) := of_decide_eq_true (by first | (with_reducible assumption) | assumption)
            have q238 : a1 < (l0.length : Int) := of_decide_eq_true (by first | (with_reducible assumption) | assumption)
            obtain ⟨ad238, A238_2, c238_2, e238, hx238_0, hx238_1, hx238_2, hx238_3, hx238_4, hx238_5, hx238_6, hl238_2, hi238_2⟩ := at_T41 HR0.out a1 p238 q238
            obtain rfl : ad237 = ad238 := (by injection e238)
            have HR238_2 := Aside0.mk hi238_2
            have HC238_2 := Aside0.mk hl238_2
            clear hi238_2 hl238_2
            replace p238 := eq_true p238
            replace q238 := eq_true q238
            go_wp2_with (first | ((with_reducible refine gate_callee (f := 53) rfl ?_); refine goesL_ (some 27) rfl rfl Try.func53 (by kernel_rfl) rfl #[.slice (some ad237) l0.length c0, .int .i64 (wrap64 (a1 - 1))] rfl (by (try simp only [List.map_toArray, List.map_cons, List.map_nil]); first | done | rfl | (simp only [List.length_drop, List.length_take]; rfl)) ?_; (with_reducible refine (ih kj5 (by have := HJ5.out; omega) _ _ l0 (wrap64 (a1 - 1)) t239 _ ?side1 ?side2 A12.out).mono ?_); (case side1 => repeat (first | exact HR0.out | (with_reducible refine Kd.C_alloc ?_ _) | (with_reducible refine Kd.C_drewN ?_ _) | (with_reducible refine Kd.C_drew ?_))); (case side2 => exact HC0.out); rintro e w' ⟨rfl, ⟨nd, rfl⟩⟩; refine ⟨_, rfl, ?_⟩; have p240 : 0 ≤ (a1 : Int) := of_decide_eq_true (by first | (with_reducible assumption) | assumption); have q240 : a1 < (l0.length : Int) := of_decide_eq_true (by first | (with_reducible assumption) | assumption); obtain ⟨ad240, A240_2, c240_2, e240, hx240_0, hx240_1, hx240_2, hx240_3, hx240_4, hx240_5, hx240_6, hl240_2, hi240_2⟩ := at_T41 HR0.out a1 p240 q240; obtain rfl : ad237 = ad240 := (by injection e240); have HR240_2 := Aside0.mk hi240_2; have HC240_2 := Aside0.mk hl240_2; clear hi240_2 hl240_2; replace p240 := eq_true p240; replace q240 := eq_true q240; have ea_ := Option.some.inj (hx238_2.symm.trans hx240_2); injection ea_ with ea_ en_ ec_; subst ea_; subst ec_; clear en_))
            go_ret
            exact ⟨by first | rfl | (simp; done) | (simp [*]; done), by repeat (first | exact Drawn0.refl _ | apply Drawn0.step)⟩
         ·rw [if_neg c11] at H
          have c11b0 : (((rd_T41 l0 a1).f4) == (wrap64 (a1 - 1))) = false := beq_eq_false_iff_ne.mpr c11
          have c11b1 : (((rd_T41 l0 a1).f4) != (wrap64 (a1 - 1))) = true := bne_iff_ne.mpr c11
          obtain rfl := Option.some.inj H
          have p238 : 0 ≤ (a1 : Int) := of_decide_eq_true (by first | (with_reducible assumption) | assumption)
          have q238 : a1 < (l0.length : Int) := of_decide_eq_true (by first | (with_reducible assumption) | assumption)
          obtain ⟨ad238, A238_2, c238_2, e238, hx238_0, hx238_1, hx238_2, hx238_3, hx238_4, hx238_5, hx238_6, hl238_2, hi238_2⟩ := at_T41 HR0.out a1 p238 q238
          obtain rfl : ad237 = ad238 := (by injection e238)
          have HR238_2 := Aside0.mk hi238_2
          have HC238_2 := Aside0.mk hl238_2
          clear hi238_2 hl238_2
          replace p238 := eq_true p238
          replace q238 := eq_true q238
          go_wp2
          go_ret
          exact ⟨by first | rfl | (simp; done) | (simp [*]; done), by repeat (first | exact Drawn0.refl _ | apply Drawn0.step)⟩
        ·rw [if_neg c10] at H
         exact absurd H (by simp)
       ·rw [if_neg c9] at H
        exact absurd H (by simp)
      ·replace c8 := Bool.eq_false_iff.mpr c8
       subst c8
       have H1 : (if ((rd_T41 l0 a1).f0) = 5 then (if 0 ≤ a1 then (if a1 < (l0.length : Int) then (if ((rd_T41 l0 a1).f3) = (wrap64 (a1 - 1)) then ((spec_l6Tree.f kj5 l0 (wrap64 (a1 - 1))).bind fun t243 => (some t243)) else (some (-1))) else (none)) else (none)) else (some a1)) = some r := by rw [if_neg (show ¬ (false = true) by decide)] at H; exact H
       clear H
       have H := H1
       clear H1
       by_cases c16 : ((rd_T41 l0 a1).f0) = 5
       ·rw [if_pos c16] at H
        have c16b0 : (((rd_T41 l0 a1).f0) == 5) = true := beq_iff_eq.mpr c16
        have c16b1 : (((rd_T41 l0 a1).f0) != 5) = false := bne_eq_false_iff_eq.mpr c16
        clear c16
        by_cases c17 : 0 ≤ a1
        ·rw [if_pos c17] at H
         have c17b0 : decide (0 ≤ a1) = true := decide_eq_true c17
         clear c17
         by_cases c18 : a1 < (l0.length : Int)
         ·rw [if_pos c18] at H
          have c18b0 : decide (a1 < (l0.length : Int)) = true := decide_eq_true c18
          clear c18
          by_cases c19 : ((rd_T41 l0 a1).f3) = (wrap64 (a1 - 1))
          ·rw [if_pos c19] at H
           have c19b0 : (((rd_T41 l0 a1).f3) == (wrap64 (a1 - 1))) = true := beq_iff_eq.mpr c19
           have c19b1 : (((rd_T41 l0 a1).f3) != (wrap64 (a1 - 1))) = false := bne_eq_false_iff_eq.mpr c19
           clear c19
           replace H := Option.bind_eq_some_iff.mp H
           obtain ⟨t243, A200, H⟩ := H
           replace H : (some t243) = some r := H
           have A20 := Aside0.mk A200
           clear A200
           obtain rfl := Option.some.inj H
           have p242 : 0 ≤ (a1 : Int) := of_decide_eq_true (by first | (with_reducible assumption) | assumption)
           have q242 : a1 < (l0.length : Int) := of_decide_eq_true (by first | (with_reducible assumption) | assumption)
           obtain ⟨ad242, A242_2, c242_2, e242, hx242_0, hx242_1, hx242_2, hx242_3, hx242_4, hx242_5, hx242_6, hl242_2, hi242_2⟩ := at_T41 HR0.out a1 p242 q242
           obtain rfl : ad237 = ad242 := (by injection e242)
           have HR242_2 := Aside0.mk hi242_2
           have HC242_2 := Aside0.mk hl242_2
           clear hi242_2 hl242_2
           replace p242 := eq_true p242
           replace q242 := eq_true q242
           go_wp2_with (first | ((with_reducible refine gate_callee (f := 53) rfl ?_); refine goesL_ (some 57) rfl rfl Try.func53 (by kernel_rfl) rfl #[.slice (some ad237) l0.length c0, .int .i64 (wrap64 (a1 - 1))] rfl (by (try simp only [List.map_toArray, List.map_cons, List.map_nil]); first | done | rfl | (simp only [List.length_drop, List.length_take]; rfl)) ?_; (with_reducible refine (ih kj5 (by have := HJ5.out; omega) _ _ l0 (wrap64 (a1 - 1)) t243 _ ?side1 ?side2 A20.out).mono ?_); (case side1 => repeat (first | exact HR0.out | (with_reducible refine Kd.C_alloc ?_ _) | (with_reducible refine Kd.C_drewN ?_ _) | (with_reducible refine Kd.C_drew ?_))); (case side2 => exact HC0.out); rintro e w' ⟨rfl, ⟨nd, rfl⟩⟩; refine ⟨_, rfl, ?_⟩))
           go_ret
           exact ⟨by first | rfl | (simp; done) | (simp [*]; done), by repeat (first | exact Drawn0.refl _ | apply Drawn0.step)⟩
          ·rw [if_neg c19] at H
           have c19b0 : (((rd_T41 l0 a1).f3) == (wrap64 (a1 - 1))) = false := beq_eq_false_iff_ne.mpr c19
           have c19b1 : (((rd_T41 l0 a1).f3) != (wrap64 (a1 - 1))) = true := bne_iff_ne.mpr c19
           obtain rfl := Option.some.inj H
           have p242 : 0 ≤ (a1 : Int) := of_decide_eq_true (by first | (with_reducible assumption) | assumption)
           have q242 : a1 < (l0.length : Int) := of_decide_eq_true (by first | (with_reducible assumption) | assumption)
           obtain ⟨ad242, A242_2, c242_2, e242, hx242_0, hx242_1, hx242_2, hx242_3, hx242_4, hx242_5, hx242_6, hl242_2, hi242_2⟩ := at_T41 HR0.out a1 p242 q242
           obtain rfl : ad237 = ad242 := (by injection e242)
           have HR242_2 := Aside0.mk hi242_2
           have HC242_2 := Aside0.mk hl242_2
           clear hi242_2 hl242_2
           replace p242 := eq_true p242
           replace q242 := eq_true q242
           go_wp2
           go_ret
           exact ⟨by first | rfl | (simp; done) | (simp [*]; done), by repeat (first | exact Drawn0.refl _ | apply Drawn0.step)⟩
         ·rw [if_neg c18] at H
          exact absurd H (by simp)
        ·rw [if_neg c17] at H
         exact absurd H (by simp)
       ·rw [if_neg c16] at H
        have c16b0 : (((rd_T41 l0 a1).f0) == 5) = false := beq_eq_false_iff_ne.mpr c16
        have c16b1 : (((rd_T41 l0 a1).f0) != 5) = true := bne_iff_ne.mpr c16
        obtain rfl := Option.some.inj H
        go_wp2
        go_ret
        exact ⟨by first | rfl | (simp; done) | (simp [*]; done), by repeat (first | exact Drawn0.refl _ | apply Drawn0.step)⟩
   ·rw [if_neg c5] at H
    exact absurd H (by simp)
  ·rw [if_neg c4] at H
   exact absurd H (by simp)

/-! ### spec_l6Weight: function 54 -/
mutual
def spec_l6Weight.j0 : Nat → List (S41) → Int → Int → Bool → Int → Bool → List (S68) → Int → Int → Int → Int → Option (Int)
 | 0, _, _, _, _, _, _, _, _, _, _, _ => none
 | k + 1, x0, x6, x12, x13, x246000, x246001, x246002, x246003, x246004, x246005, x246006 => if x13 = true then ((spec_l6Weight.f k x0 x246003).bind fun t246 => ((spec_l6Weight.f k x0 x246004).bind fun t247 => (some (mn (wrap64 (t246 + t247)) 2001)))) else (if x12 = 5 then ((spec_l6Weight.f k x0 x246003).bind fun t248 => (some (mn (wrap64 (t248 * (mx (mx 1 (wrap64 (x246005 + 1))) x246006))) 2001))) else (some (mn x6 2001)))
def spec_l6Weight.f : Nat → List (S41) → Int → Option (Int)
 | 0, _, _ => none
 | k + 1, l0, a1 => if 0 ≤ a1 then (if a1 < (l0.length : Int) then (if ((rd_T41 l0 a1).f0) = 3 then (spec_l6Weight.j0 k l0 1 ((rd_T41 l0 a1).f0) (((rd_T41 l0 a1).f0) == 3) ((rd_T41 l0 a1).f0) ((rd_T41 l0 a1).f1) ((rd_T41 l0 a1).f2) ((rd_T41 l0 a1).f3) ((rd_T41 l0 a1).f4) ((rd_T41 l0 a1).f5) ((rd_T41 l0 a1).f6)) else (spec_l6Weight.j0 k l0 1 ((rd_T41 l0 a1).f0) (((rd_T41 l0 a1).f0) == 4) ((rd_T41 l0 a1).f0) ((rd_T41 l0 a1).f1) ((rd_T41 l0 a1).f2) ((rd_T41 l0 a1).f3) ((rd_T41 l0 a1).f4) ((rd_T41 l0 a1).f5) ((rd_T41 l0 a1).f6))) else (none)) else (none)
end
theorem spec_l6Weight.mono_l : ∀ k, (∀ y0 y1, LeO (spec_l6Weight.f k y0 y1) (spec_l6Weight.f (k + 1) y0 y1)) ∧ (∀ y0 y1 y2 y3 y4 y5 y6 y7 y8 y9 y10, LeO (spec_l6Weight.j0 k y0 y1 y2 y3 y4 y5 y6 y7 y8 y9 y10) (spec_l6Weight.j0 (k + 1) y0 y1 y2 y3 y4 y5 y6 y7 y8 y9 y10))
 | 0 => ⟨fun _ _ r h => by simp [spec_l6Weight.f] at h, fun _ _ _ _ _ _ _ _ _ _ _ r h => by simp [spec_l6Weight.j0] at h⟩
 | k + 1 => by
  obtain ⟨ih0, ih1⟩ := spec_l6Weight.mono_l k
  refine ⟨?_, ?_⟩
  ·intro y0 y1
   unfold spec_l6Weight.f
   repeat' first
   | (with_reducible exact ih0 _ _)
   | (with_reducible exact ih1 _ _ _ _ _ _ _ _ _ _ _)
   | (with_reducible exact LeO.refl _)
   | (with_reducible exact LeO.none _)
   | (with_reducible refine LeO.ite ?_ ?_)
   | (with_reducible refine LeO.bind ?_ (fun _ => ?_))
   | exact ih0 _ _
   | exact ih1 _ _ _ _ _ _ _ _ _ _ _
   | exact LeO.none _
   | refine LeO.ite ?_ ?_
   | refine LeO.bind ?_ (fun _ => ?_)
  ·intro y0 y1 y2 y3 y4 y5 y6 y7 y8 y9 y10
   unfold spec_l6Weight.j0
   repeat' first
   | (with_reducible exact ih0 _ _)
   | (with_reducible exact ih1 _ _ _ _ _ _ _ _ _ _ _)
   | (with_reducible exact LeO.refl _)
   | (with_reducible exact LeO.none _)
   | (with_reducible refine LeO.ite ?_ ?_)
   | (with_reducible refine LeO.bind ?_ (fun _ => ?_))
   | exact ih0 _ _
   | exact ih1 _ _ _ _ _ _ _ _ _ _ _
   | exact LeO.none _
   | refine LeO.ite ?_ ?_
   | refine LeO.bind ?_ (fun _ => ?_)
theorem spec_l6Weight.mono : ∀ a0 a1 k, LeO (spec_l6Weight.f k a0 a1) (spec_l6Weight.f (k + 1) a0 a1) := by
 intro a0 a1 k
 obtain ⟨ih0, ih1⟩ := spec_l6Weight.mono_l k
 exact ih0 a0 a1
def spec_l6Weight.T6 : Bool × List (List Nat × List Nat) := (true, [([], []), ([], []), ([1], [1]), ([0, 2], [0, 2]), ([], []), ([], []), ([5], [5]), ([4, 6, 3], [4, 6]), ([3, 7], [3, 7]), ([8, 7, 0, 1, 2, 3, 4, 5, 6, 7, 8], [8])])
def spec_l6Weight.B6 : List Nat := [0, 0, 2, 7, 0, 0, 32, 127, 255, 511]
theorem spec_l6Weight.tab6 : rtab .any (opsOf Try.f54 6) = spec_l6Weight.T6 := by kernel_rfl
theorem spec_l6Weight.bits6 : waitsOk spec_l6Weight.T6.2 spec_l6Weight.B6 = true := by kernel_rfl
def spec_l6Weight.T8 : Bool × List (List Nat × List Nat) := (true, [([], []), ([], []), ([1], [1]), ([0, 2], [0, 2]), ([], []), ([4], [4]), ([5], [5]), ([], []), ([7], [7]), ([6, 8], [6, 8]), ([3, 9], [3, 9]), ([10, 3, 0, 1, 2, 3, 4, 5, 6, 7, 8, 9, 10], [10])])
def spec_l6Weight.B8 : List Nat := [0, 0, 2, 7, 0, 16, 48, 0, 128, 496, 1023, 2047]
theorem spec_l6Weight.tab8 : rtab .any (opsOf Try.f54 8) = spec_l6Weight.T8 := by kernel_rfl
theorem spec_l6Weight.bits8 : waitsOk spec_l6Weight.T8.2 spec_l6Weight.B8 = true := by kernel_rfl
set_option maxHeartbeats 8000000 in
set_option maxRecDepth 100000 in
theorem spec_l6Weight.calls (k : Nat) : ∀ (A0 : Option Addr) (c0 : Nat) (l0 : List (S41)) (a1 : Int) (r : Int) (w : World) (hr0 : Kd.C k41 w A0 l0.length l0) (hc0 : l0.length ≤ c0) (h : spec_l6Weight.f k l0 a1 = some r),
  Calls Try.prog 54 #[.slice A0 l0.length c0, .int .i64 a1] w fun e w' => e = .returned (.int .i64 r) ∧ Below w.heap.size w w' := by
 induction k using Nat.strongRecOn with
 | _ k ih =>
 intro A0 c0 l0 a1 r w hr0 hc0 h
 cases k with
 | zero => exact absurd h (by simp [spec_l6Weight.f])
 | succ k =>
 simp only [spec_l6Weight.f] at h
 have hu41 := Try.underlying41
 have HR0 := Aside0.mk hr0
 have HC0 := Aside0.mk hc0
 clear hr0 hc0
 have HB := Aside0.mk (Below.refl w.heap.size w)
 have H : (if 0 ≤ a1 then (if a1 < (l0.length : Int) then (if ((rd_T41 l0 a1).f0) = 3 then (spec_l6Weight.j0 k l0 1 ((rd_T41 l0 a1).f0) (((rd_T41 l0 a1).f0) == 3) ((rd_T41 l0 a1).f0) ((rd_T41 l0 a1).f1) ((rd_T41 l0 a1).f2) ((rd_T41 l0 a1).f3) ((rd_T41 l0 a1).f4) ((rd_T41 l0 a1).f5) ((rd_T41 l0 a1).f6)) else (spec_l6Weight.j0 k l0 1 ((rd_T41 l0 a1).f0) (((rd_T41 l0 a1).f0) == 4) ((rd_T41 l0 a1).f0) ((rd_T41 l0 a1).f1) ((rd_T41 l0 a1).f2) ((rd_T41 l0 a1).f3) ((rd_T41 l0 a1).f4) ((rd_T41 l0 a1).f5) ((rd_T41 l0 a1).f6))) else (none)) else (none)) = some r := h
 clear h
 by_cases c3 : 0 ≤ a1
 ·rw [if_pos c3] at H
  have c3b0 : decide (0 ≤ a1) = true := decide_eq_true c3
  clear c3
  by_cases c4 : a1 < (l0.length : Int)
  ·rw [if_pos c4] at H
   have c4b0 : decide (a1 < (l0.length : Int)) = true := decide_eq_true c4
   clear c4
   have HC5 := Aside0.mk H
   clear H
   have p244 : 0 ≤ (a1 : Int) := of_decide_eq_true (by first | (with_reducible assumption) | assumption)
   have q244 : a1 < (l0.length : Int) := of_decide_eq_true (by first | (with_reducible assumption) | assumption)
   obtain ⟨ad244, A244_2, c244_2, e244, hx244_0, hx244_1, hx244_2, hx244_3, hx244_4, hx244_5, hx244_6, hl244_2, hi244_2⟩ := at_T41 HR0.out a1 p244 q244
   cases e244
   have HR244_2 := Aside0.mk hi244_2
   have HC244_2 := Aside0.mk hl244_2
   clear hi244_2 hl244_2
   replace p244 := eq_true p244
   replace q244 := eq_true q244
   go_enter Try.func54, Try.ntmps54
   go_upto_if 13 with (first | ((with_reducible refine gate_dst (N := 5) rfl ?_); refine box_event ?hg (N := 5) ?hd (cs := #[.int .i64 0, .bool false, .slice none 0 0, .int .i64 0, .int .i64 0, .int .i64 0, .int .i64 0]) (t := 41) ?hr ?_; (case hd => rfl); (case hg => rfl); (case hr => first | (go_simp; done) | (go_simp; rfl)); intro gb245 hg w6 hbox hb; have n0_ := Aside0.mk (below_step (by repeat (first | (with_reducible first | exact HB.out | apply below_alloc | apply pw_below_drewN | apply below_drew1) | exact HB.out)) hb); have n1_ := Aside0.mk (hbox); have n2_ := Aside0.mk ((by rw [hg]; exact (below_size (by repeat (first | (with_reducible first | exact HB.out | apply below_alloc | apply pw_below_drewN | apply below_drew1) | exact HB.out))) : w.heap.size ≤ gb245)); have n3_ := Aside0.mk ((by rw [hg]; exact (below_size (by repeat (first | (with_reducible first | exact HB.out | apply below_alloc | apply pw_below_drewN | apply below_drew1) | exact HB.out))) : w.heap.size ≤ gb245)); clear HB; have HB := n0_; have BK245 := n1_; have GW245 := n2_; have GE245 := n3_; clear n0_ n1_ n2_ n3_; clear hb hbox hg; have hcz7_0 : w6.cell? ⟨gb245, 0, none⟩ = some (.int .i64 0) := (blk_cell BK245.out 0).trans rfl; have hcz7_1 : w6.cell? ⟨gb245, 1, none⟩ = some (.bool false) := (blk_cell BK245.out 1).trans rfl; have hcz7_2 : w6.cell? ⟨gb245, 2, none⟩ = some (.slice none 0 0) := (blk_cell BK245.out 2).trans rfl; have hcz7_3 : w6.cell? ⟨gb245, 3, none⟩ = some (.int .i64 0) := (blk_cell BK245.out 3).trans rfl; have hcz7_4 : w6.cell? ⟨gb245, 4, none⟩ = some (.int .i64 0) := (blk_cell BK245.out 4).trans rfl; have hcz7_5 : w6.cell? ⟨gb245, 5, none⟩ = some (.int .i64 0) := (blk_cell BK245.out 5).trans rfl; have hcz7_6 : w6.cell? ⟨gb245, 6, none⟩ = some (.int .i64 0) := (blk_cell BK245.out 6).trans rfl; have hfz7_0 := blk_frozen BK245.out 0; have hfz7_1 := blk_frozen BK245.out 1; have hfz7_2 := blk_frozen BK245.out 2; have hfz7_3 := blk_frozen BK245.out 3; have hfz7_4 := blk_frozen BK245.out 4; have hfz7_5 := blk_frozen BK245.out 5; have hfz7_6 := blk_frozen BK245.out 6) | ((with_reducible refine gate_store (t := 41) (p := 5) rfl ?_); refine store_event (t := 41) (p := 5) (v := ?vo_w8) (w1 := (((((((w6.setCell ⟨gb245, 0, none⟩ (.int .i64 ((rd_T41 l0 a1).f0))).setCell ⟨gb245, 1, none⟩ (.bool ((rd_T41 l0 a1).f1))).setCell ⟨gb245, 2, none⟩ (.slice A244_2 ((rd_T41 l0 a1).f2).length c244_2)).setCell ⟨gb245, 3, none⟩ (.int .i64 ((rd_T41 l0 a1).f3))).setCell ⟨gb245, 4, none⟩ (.int .i64 ((rd_T41 l0 a1).f4))).setCell ⟨gb245, 5, none⟩ (.int .i64 ((rd_T41 l0 a1).f5))).setCell ⟨gb245, 6, none⟩ (.int .i64 ((rd_T41 l0 a1).f6)))) ?hg ?ho ?hn ?hr ?_; (case ho => rfl); (case hg => rfl); (case hn => rfl); (case hr => first | (go_simp; done) | (go_simp; rfl)); intro w8 hw; have n0_ : Aside0 (w8.heap[gb245]? = some (.cells #[.int .i64 ((rd_T41 l0 a1).f0), .bool ((rd_T41 l0 a1).f1), .slice A244_2 ((rd_T41 l0 a1).f2).length c244_2, .int .i64 ((rd_T41 l0 a1).f3), .int .i64 ((rd_T41 l0 a1).f4), .int .i64 ((rd_T41 l0 a1).f5), .int .i64 ((rd_T41 l0 a1).f6)] 41 (0, 0))) := ⟨(by rw [hw]; exact (by (with_reducible repeat (first | refine blk_drewN ?_ _ | refine blk_drew ?_ | refine blk_alloc ?_ _)); refine blk_put (cs := #[.int .i64 ((rd_T41 l0 a1).f0), .bool ((rd_T41 l0 a1).f1), .slice A244_2 ((rd_T41 l0 a1).f2).length c244_2, .int .i64 ((rd_T41 l0 a1).f3), .int .i64 ((rd_T41 l0 a1).f4), .int .i64 ((rd_T41 l0 a1).f5), .int .i64 0]) ?_ 6 _ rfl; (with_reducible repeat (first | refine blk_drewN ?_ _ | refine blk_drew ?_ | refine blk_alloc ?_ _)); refine blk_put (cs := #[.int .i64 ((rd_T41 l0 a1).f0), .bool ((rd_T41 l0 a1).f1), .slice A244_2 ((rd_T41 l0 a1).f2).length c244_2, .int .i64 ((rd_T41 l0 a1).f3), .int .i64 ((rd_T41 l0 a1).f4), .int .i64 0, .int .i64 0]) ?_ 5 _ rfl; (with_reducible repeat (first | refine blk_drewN ?_ _ | refine blk_drew ?_ | refine blk_alloc ?_ _)); refine blk_put (cs := #[.int .i64 ((rd_T41 l0 a1).f0), .bool ((rd_T41 l0 a1).f1), .slice A244_2 ((rd_T41 l0 a1).f2).length c244_2, .int .i64 ((rd_T41 l0 a1).f3), .int .i64 0, .int .i64 0, .int .i64 0]) ?_ 4 _ rfl; (with_reducible repeat (first | refine blk_drewN ?_ _ | refine blk_drew ?_ | refine blk_alloc ?_ _)); refine blk_put (cs := #[.int .i64 ((rd_T41 l0 a1).f0), .bool ((rd_T41 l0 a1).f1), .slice A244_2 ((rd_T41 l0 a1).f2).length c244_2, .int .i64 0, .int .i64 0, .int .i64 0, .int .i64 0]) ?_ 3 _ rfl; (with_reducible repeat (first | refine blk_drewN ?_ _ | refine blk_drew ?_ | refine blk_alloc ?_ _)); refine blk_put (cs := #[.int .i64 ((rd_T41 l0 a1).f0), .bool ((rd_T41 l0 a1).f1), .slice none 0 0, .int .i64 0, .int .i64 0, .int .i64 0, .int .i64 0]) ?_ 2 _ rfl; (with_reducible repeat (first | refine blk_drewN ?_ _ | refine blk_drew ?_ | refine blk_alloc ?_ _)); refine blk_put (cs := #[.int .i64 ((rd_T41 l0 a1).f0), .bool false, .slice none 0 0, .int .i64 0, .int .i64 0, .int .i64 0, .int .i64 0]) ?_ 1 _ rfl; (with_reducible repeat (first | refine blk_drewN ?_ _ | refine blk_drew ?_ | refine blk_alloc ?_ _)); refine blk_put (cs := #[.int .i64 0, .bool false, .slice none 0 0, .int .i64 0, .int .i64 0, .int .i64 0, .int .i64 0]) ?_ 0 _ rfl; (with_reducible repeat (first | refine blk_drewN ?_ _ | refine blk_drew ?_ | refine blk_alloc ?_ _)); exact BK245.out))⟩; have n1_ : Aside0 (Below w.heap.size w w8) := ⟨(by rw [hw]; exact (by repeat (first | (with_reducible first | exact HB.out | apply below_alloc | apply pw_below_drewN | apply below_drew1 | refine below_set ?_ GE245.out) | exact HB.out)))⟩; clear hw; clear BK245; clear HB; have BK245 := n0_; have HB := n1_; clear n0_ n1_; have hcz9_0 : w8.cell? ⟨gb245, 0, none⟩ = some (.int .i64 ((rd_T41 l0 a1).f0)) := (blk_cell BK245.out 0).trans rfl; have hcz9_1 : w8.cell? ⟨gb245, 1, none⟩ = some (.bool ((rd_T41 l0 a1).f1)) := (blk_cell BK245.out 1).trans rfl; have hcz9_2 : w8.cell? ⟨gb245, 2, none⟩ = some (.slice A244_2 ((rd_T41 l0 a1).f2).length c244_2) := (blk_cell BK245.out 2).trans rfl; have hcz9_3 : w8.cell? ⟨gb245, 3, none⟩ = some (.int .i64 ((rd_T41 l0 a1).f3)) := (blk_cell BK245.out 3).trans rfl; have hcz9_4 : w8.cell? ⟨gb245, 4, none⟩ = some (.int .i64 ((rd_T41 l0 a1).f4)) := (blk_cell BK245.out 4).trans rfl; have hcz9_5 : w8.cell? ⟨gb245, 5, none⟩ = some (.int .i64 ((rd_T41 l0 a1).f5)) := (blk_cell BK245.out 5).trans rfl; have hcz9_6 : w8.cell? ⟨gb245, 6, none⟩ = some (.int .i64 ((rd_T41 l0 a1).f6)) := (blk_cell BK245.out 6).trans rfl; have hfz9_0 := blk_frozen BK245.out 0; have hfz9_1 := blk_frozen BK245.out 1; have hfz9_2 := blk_frozen BK245.out 2; have hfz9_3 := blk_frozen BK245.out 3; have hfz9_4 := blk_frozen BK245.out 4; have hfz9_5 := blk_frozen BK245.out 5; have hfz9_6 := blk_frozen BK245.out 6))
   (try simp only [Act.put, List.setIfInBounds_toArray, List.set_cons_zero, List.set_cons_succ])
   go_cut [13] (fun v13 wc => ∃ (kq : Nat) (x13_4 : Bool), v13 = .bool x13_4 ∧ Aside0 (spec_l6Weight.j0 kq l0 1 ((rd_T41 l0 a1).f0) x13_4 ((rd_T41 l0 a1).f0) ((rd_T41 l0 a1).f1) ((rd_T41 l0 a1).f2) ((rd_T41 l0 a1).f3) ((rd_T41 l0 a1).f4) ((rd_T41 l0 a1).f5) ((rd_T41 l0 a1).f6) = some r) ∧ Aside0 (kq ≤ k) ∧ Aside0 (wc.heap[gb245]? = some (.cells #[.int .i64 ((rd_T41 l0 a1).f0), .bool ((rd_T41 l0 a1).f1), (.slice A244_2 ((rd_T41 l0 a1).f2).length c244_2), .int .i64 ((rd_T41 l0 a1).f3), .int .i64 ((rd_T41 l0 a1).f4), .int .i64 ((rd_T41 l0 a1).f5), .int .i64 ((rd_T41 l0 a1).f6)] 41 (0, 0))) ∧ Aside0 (Below w.heap.size w wc))
   case first =>
    have H := HC5.out
    clear HC5
    by_cases c10 : ((rd_T41 l0 a1).f0) = 3
    ·rw [if_pos c10] at H
     have c10b0 : (((rd_T41 l0 a1).f0) == 3) = true := beq_iff_eq.mpr c10
     have c10b1 : (((rd_T41 l0 a1).f0) != 3) = false := bne_eq_false_iff_eq.mpr c10
     clear c10
     (first | rw [c10b0] | (simp only [i64_w, i32_w]; rw [c10b0]) | skip)
     have H' := Aside0.mk H
     clear H
     go_wp2
     go_meet
     case rel => exact ⟨_, ((((rd_T41 l0 a1).f0) == 3)), (by first | rfl | (simp; done) | (simp [*]; done)), H', ⟨by first | omega | exact Nat.le_refl _⟩, ⟨by (with_reducible repeat (first | refine blk_drewN ?_ _ | refine blk_drew ?_ | refine blk_alloc ?_ _)); exact BK245.out⟩, ⟨by repeat (first | (with_reducible first | exact HB.out | apply below_alloc | apply pw_below_drewN | apply below_drew1 | refine below_set ?_ GE245.out) | exact HB.out)⟩⟩
    ·rw [if_neg c10] at H
     have c10b0 : (((rd_T41 l0 a1).f0) == 3) = false := beq_eq_false_iff_ne.mpr c10
     have c10b1 : (((rd_T41 l0 a1).f0) != 3) = true := bne_iff_ne.mpr c10
     (first | rw [c10b0] | (simp only [i64_w, i32_w]; rw [c10b0]) | skip)
     have H' := Aside0.mk H
     clear H
     go_wp2
     go_meet
     case rel => exact ⟨_, ((((rd_T41 l0 a1).f0) == 4)), (by first | rfl | (simp; done) | (simp [*]; done)), H', ⟨by first | omega | exact Nat.le_refl _⟩, ⟨by (with_reducible repeat (first | refine blk_drewN ?_ _ | refine blk_drew ?_ | refine blk_alloc ?_ _)); exact BK245.out⟩, ⟨by repeat (first | (with_reducible first | exact HB.out | apply below_alloc | apply pw_below_drewN | apply below_drew1 | refine below_set ?_ GE245.out) | exact HB.out)⟩⟩
   case rest =>
    clear HC5
    try clear c1
    try clear c2
    try clear p2
    try clear q2
    try clear hx2
    try clear c3
    try clear c3b0
    try clear c4
    try clear c4b0
    try clear c5
    try clear c10
    try clear c10b0
    try clear c10b1
    try clear hcz7_0
    try clear hcz7_1
    try clear hcz7_2
    try clear hcz7_3
    try clear hcz7_4
    try clear hcz7_5
    try clear hcz7_6
    try clear hcz9_0
    try clear hcz9_1
    try clear hcz9_2
    try clear hcz9_3
    try clear hcz9_4
    try clear hcz9_5
    try clear hcz9_6
    try clear hfz7_0
    try clear hfz7_1
    try clear hfz7_2
    try clear hfz7_3
    try clear hfz7_4
    try clear hfz7_5
    try clear hfz7_6
    try clear hfz9_0
    try clear hfz9_1
    try clear hfz9_2
    try clear hfz9_3
    try clear hfz9_4
    try clear hfz9_5
    try clear hfz9_6
    try clear hx244_0
    try clear hx244_1
    try clear hx244_2
    try clear hx244_3
    try clear hx244_4
    try clear hx244_5
    try clear hx244_6
    try clear p244
    try clear q244
    obtain ⟨kq, x13_4, rfl, HA, HJ4, BK245, HB⟩ := hcut
    cases kq with
    | zero => exact absurd HA.out (by simp [spec_l6Weight.j0])
    | succ kj4 =>
     have H := HA.out
     clear HA
     simp only [spec_l6Weight.j0] at H
     by_cases c11 : x13_4 = true
     ·subst c11
      have H1 : ((spec_l6Weight.f kj4 l0 ((rd_T41 l0 a1).f3)).bind fun t246 => ((spec_l6Weight.f kj4 l0 ((rd_T41 l0 a1).f4)).bind fun t247 => (some (mn (wrap64 (t246 + t247)) 2001)))) = some r := by rw [if_pos rfl] at H; exact H
      clear H
      have H := H1
      clear H1
      replace H := Option.bind_eq_some_iff.mp H
      obtain ⟨t246, A120, H⟩ := H
      replace H : ((spec_l6Weight.f kj4 l0 ((rd_T41 l0 a1).f4)).bind fun t247 => (some (mn (wrap64 (t246 + t247)) 2001))) = some r := H
      have A12 := Aside0.mk A120
      clear A120
      replace H := Option.bind_eq_some_iff.mp H
      obtain ⟨t247, A130, H⟩ := H
      replace H : (some (mn (wrap64 (t246 + t247)) 2001)) = some r := H
      have A13 := Aside0.mk A130
      clear A130
      obtain ⟨ji14, hji14⟩ : ∃ j_ : Int, (mn (wrap64 (t246 + t247)) 2001) = j_ := ⟨_, rfl⟩
      replace H : (some ji14) = some r := by first | (rw [hji14] at H; exact H) | (simp only [hji14] at H ⊢; exact H)
      (try rw [hji14] at A12)
      (try rw [hji14] at A13)
      (try (have hji14h : ji14 ≤ 2001 := by (rw [← hji14]; unfold mn; (repeat' split) <;> omega)))
      (try (have hji14g : ji14 ≤ 64 := by omega))
      have hji14_ : (if 2001 < (wrap64 (t246 + t247)) then 2001 else (wrap64 (t246 + t247))) = ji14 := hji14
      obtain rfl := Option.some.inj H
      try go_wp2
      have n0_ := Aside0.mk (blk_drew BK245.out)
      have n1_ := Aside0.mk (below_drew1 HB.out)
      clear BK245
      clear HB
      have BK245 := n0_
      have HB := n1_
      clear n0_ n1_
      refine start_ (n := 10) (S := fun w' => w'.cell? ⟨gb245, 0, none⟩ = some (.int .i64 ((rd_T41 l0 a1).f0)) ∧ w'.cell? ⟨gb245, 1, none⟩ = some (.bool ((rd_T41 l0 a1).f1)) ∧ w'.cell? ⟨gb245, 2, none⟩ = some (.slice A244_2 ((rd_T41 l0 a1).f2).length c244_2) ∧ w'.cell? ⟨gb245, 3, none⟩ = some (.int .i64 ((rd_T41 l0 a1).f3)) ∧ w'.cell? ⟨gb245, 4, none⟩ = some (.int .i64 ((rd_T41 l0 a1).f4)) ∧ w'.cell? ⟨gb245, 5, none⟩ = some (.int .i64 ((rd_T41 l0 a1).f5)) ∧ w'.cell? ⟨gb245, 6, none⟩ = some (.int .i64 ((rd_T41 l0 a1).f6))) (ds := []) #[false, false, false, false, false, false, false, false, false, false] (by kernel_rfl) rfl rfl ⟨(blk_cell BK245.out 0).trans rfl, (blk_cell BK245.out 1).trans rfl, (blk_cell BK245.out 2).trans rfl, (blk_cell BK245.out 3).trans rfl, (blk_cell BK245.out 4).trans rfl, (blk_cell BK245.out 5).trans rfl, (blk_cell BK245.out 6).trans rfl⟩ (fun hHeld => ?_); refine with_tabW spec_l6Weight.tab6 spec_l6Weight.bits6 (fun HT_ HW_ => ?_)
      generalize wc.drew = w15 at BK245 HB hHeld ⊢
      refine pure_ (i := 0) (N := some 16) (v := ?_) (a' := ?_) #[true, false, false, false, false, false, false, false, false, false] rfl rfl (any_of HT_.out (by kernel_rfl)) (fun _ _ _ h => h) (Or.inl ⟨by rfl, ?_⟩) ?_ ?_
      rotate_left
      ·intro w'
       go_simp
       with_reducible rfl
      rotate_left
      ·simp only [Act.put, List.setIfInBounds_toArray, List.set_cons_zero, List.set_cons_succ, i64_w, i32_w]
       rfl
      refine pure_ (i := 1) (N := some 17) (v := ?_) (a' := ?_) #[true, true, false, false, false, false, false, false, false, false] rfl rfl (any_of HT_.out (by kernel_rfl)) (fun _ _ _ h => h) (Or.inl ⟨by rfl, ?_⟩) ?_ ?_
      rotate_left
      ·intro w'
       go_simp
       with_reducible rfl
      rotate_left
      ·simp only [Act.put, List.setIfInBounds_toArray, List.set_cons_zero, List.set_cons_succ, i64_w, i32_w]
       rfl
      refine pure_ (i := 4) (N := some 20) (v := ?_) (a' := ?_) #[true, true, false, false, true, false, false, false, false, false] rfl rfl (any_of HT_.out (by kernel_rfl)) (fun _ _ _ h => h) (Or.inl ⟨by rfl, ?_⟩) ?_ ?_
      rotate_left
      ·intro w'
       go_simp
       with_reducible rfl
      rotate_left
      ·simp only [Act.put, List.setIfInBounds_toArray, List.set_cons_zero, List.set_cons_succ, i64_w, i32_w]
       rfl
      refine pure_ (i := 5) (N := some 21) (v := ?_) (a' := ?_) #[true, true, false, false, true, true, false, false, false, false] rfl rfl (any_of HT_.out (by kernel_rfl)) (fun _ _ _ h => h) (Or.inl ⟨by rfl, ?_⟩) ?_ ?_
      rotate_left
      ·intro w'
       go_simp
       with_reducible rfl
      rotate_left
      ·simp only [Act.put, List.setIfInBounds_toArray, List.set_cons_zero, List.set_cons_succ, i64_w, i32_w]
       rfl
      refine take_ (i := 2) (N := some 18) (v := ?_) (a' := ?_) #[true, true, true, false, true, true, false, false, false, false] rfl rfl (take_ofW HT_.out HW_.out (by kernel_rfl)) (fun _ _ _ h => h) (Or.inl ⟨by rfl, ?_⟩) hHeld ?_ ?_
      rotate_left
      ·rintro w' ⟨s0, s1, s2, s3, s4, s5, s6⟩
       go_simp
       with_reducible rfl
      rotate_left
      ·simp only [Act.put, List.setIfInBounds_toArray, List.set_cons_zero, List.set_cons_succ, i64_w, i32_w]
       rfl
      refine take_ (i := 6) (N := some 22) (v := ?_) (a' := ?_) #[true, true, true, false, true, true, true, false, false, false] rfl rfl (take_ofW HT_.out HW_.out (by kernel_rfl)) (fun _ _ _ h => h) (Or.inl ⟨by rfl, ?_⟩) hHeld ?_ ?_
      rotate_left
      ·rintro w' ⟨s0, s1, s2, s3, s4, s5, s6⟩
       go_simp
       with_reducible rfl
      rotate_left
      ·simp only [Act.put, List.setIfInBounds_toArray, List.set_cons_zero, List.set_cons_succ, i64_w, i32_w]
       rfl
      refine one_ (i := 3) (N := some 19) #[true, true, true, true, true, true, true, false, false, false] rfl rfl (one_of HT_.out (by kernel_rfl)) (by decide) (fun K hK => ?_)
      refine goes_ Try.func54 (by kernel_rfl) rfl #[.slice (some ad244) l0.length c0, .int .i64 ((rd_T41 l0 a1).f3)] (by rfl) rfl rfl (by (try simp only [List.map_toArray, List.map_cons, List.map_nil]); first | done | rfl | (simp only [List.length_drop, List.length_take]; rfl)) ?_
      with_reducible refine (ih kj4 (by have := HJ4.out; omega) _ _ l0 ((rd_T41 l0 a1).f3) t246 _ ?side1 ?side2 A12.out).mono ?_
      (case side1 => repeat (first | exact (Kd.C_below HR0.out HB.out) | (with_reducible refine Kd.C_alloc ?_ _) | (with_reducible refine Kd.C_drewN ?_ _) | (with_reducible refine Kd.C_drew ?_)))
      (case side2 => exact HC0.out)
      rintro e w16 ⟨rfl, hb⟩
      refine ⟨_, rfl, ?_⟩
      have n0_ := Aside0.mk (blk_below (g := gb245) (o := .cells #[.int .i64 ((rd_T41 l0 a1).f0), .bool ((rd_T41 l0 a1).f1), .slice A244_2 ((rd_T41 l0 a1).f2).length c244_2, .int .i64 ((rd_T41 l0 a1).f3), .int .i64 ((rd_T41 l0 a1).f4), .int .i64 ((rd_T41 l0 a1).f5), .int .i64 ((rd_T41 l0 a1).f6)] 41 (0, 0)) (by (with_reducible repeat (first | refine blk_drewN ?_ _ | refine blk_drew ?_ | refine blk_alloc ?_ _)); exact BK245.out) hb)
      have n1_ := Aside0.mk (below_step (by repeat (first | (with_reducible first | exact HB.out | apply below_alloc | apply pw_below_drewN | apply below_drew1 | refine below_set ?_ GE245.out) | exact HB.out)) hb)
      clear BK245
      clear HB
      have BK245 := n0_
      have HB := n1_
      clear n0_ n1_
      (try clear hb)
      (try clear hb2)
      (try clear hk)
      (try clear hi)
      refine hK.out _ _ ⟨(blk_cell BK245.out 0).trans rfl, (blk_cell BK245.out 1).trans rfl, (blk_cell BK245.out 2).trans rfl, (blk_cell BK245.out 3).trans rfl, (blk_cell BK245.out 4).trans rfl, (blk_cell BK245.out 5).trans rfl, (blk_cell BK245.out 6).trans rfl⟩ (fun hHeld => ?_)
      clear hK K
      refine norm_ (a' := ?_) ?_ ?_
      rotate_left
      ·show Act.put _ (some 19) _ = _
       simp only [Act.put, List.setIfInBounds_toArray, List.set_cons_zero, List.set_cons_succ, i64_w, i32_w]
       rfl
      refine one_ (i := 7) (N := some 23) #[true, true, true, true, true, true, true, true, false, false] rfl rfl (one_of HT_.out (by kernel_rfl)) (by decide) (fun K hK => ?_)
      refine goes_ Try.func54 (by kernel_rfl) rfl #[.slice (some ad244) l0.length c0, .int .i64 ((rd_T41 l0 a1).f4)] (by rfl) rfl rfl (by (try simp only [List.map_toArray, List.map_cons, List.map_nil]); first | done | rfl | (simp only [List.length_drop, List.length_take]; rfl)) ?_
      with_reducible refine (ih kj4 (by have := HJ4.out; omega) _ _ l0 ((rd_T41 l0 a1).f4) t247 _ ?side1 ?side2 A13.out).mono ?_
      (case side1 => repeat (first | exact (Kd.C_below HR0.out HB.out) | (with_reducible refine Kd.C_alloc ?_ _) | (with_reducible refine Kd.C_drewN ?_ _) | (with_reducible refine Kd.C_drew ?_)))
      (case side2 => exact HC0.out)
      rintro e w17 ⟨rfl, hb⟩
      refine ⟨_, rfl, ?_⟩
      have n0_ := Aside0.mk (blk_below (g := gb245) (o := .cells #[.int .i64 ((rd_T41 l0 a1).f0), .bool ((rd_T41 l0 a1).f1), .slice A244_2 ((rd_T41 l0 a1).f2).length c244_2, .int .i64 ((rd_T41 l0 a1).f3), .int .i64 ((rd_T41 l0 a1).f4), .int .i64 ((rd_T41 l0 a1).f5), .int .i64 ((rd_T41 l0 a1).f6)] 41 (0, 0)) (by (with_reducible repeat (first | refine blk_drewN ?_ _ | refine blk_drew ?_ | refine blk_alloc ?_ _)); exact BK245.out) hb)
      have n1_ := Aside0.mk (below_step (by repeat (first | (with_reducible first | exact HB.out | apply below_alloc | apply pw_below_drewN | apply below_drew1 | refine below_set ?_ GE245.out) | exact HB.out)) hb)
      clear BK245
      clear HB
      have BK245 := n0_
      have HB := n1_
      clear n0_ n1_
      (try clear hb)
      (try clear hb2)
      (try clear hk)
      (try clear hi)
      refine hK.out _ _ ⟨(blk_cell BK245.out 0).trans rfl, (blk_cell BK245.out 1).trans rfl, (blk_cell BK245.out 2).trans rfl, (blk_cell BK245.out 3).trans rfl, (blk_cell BK245.out 4).trans rfl, (blk_cell BK245.out 5).trans rfl, (blk_cell BK245.out 6).trans rfl⟩ (fun hHeld => ?_)
      clear hK K
      refine norm_ (a' := ?_) ?_ ?_
      rotate_left
      ·show Act.put _ (some 23) _ = _
       simp only [Act.put, List.setIfInBounds_toArray, List.set_cons_zero, List.set_cons_succ, i64_w, i32_w]
       rfl
      refine pure_ (i := 8) (N := some 24) (v := ?_) (a' := ?_) #[true, true, true, true, true, true, true, true, true, false] rfl rfl (any_of HT_.out (by kernel_rfl)) (fun _ _ _ h => h) (Or.inl ⟨by rfl, ?_⟩) ?_ ?_
      rotate_left
      ·intro w'
       go_simp
       with_reducible rfl
      rotate_left
      ·simp only [Act.put, List.setIfInBounds_toArray, List.set_cons_zero, List.set_cons_succ, i64_w, i32_w]
       rfl
      refine pure_ (i := 9) (N := some 6) (v := ?_) (a' := ?_) #[true, true, true, true, true, true, true, true, true, true] rfl rfl (any_of HT_.out (by kernel_rfl)) (fun _ _ _ h => h) (Or.inl ⟨by rfl, ?_⟩) ?_ ?_
      rotate_left
      ·intro w'
       go_simp
       with_reducible rfl
      rotate_left
      ·simp only [Act.put, List.setIfInBounds_toArray, List.set_cons_zero, List.set_cons_succ, i64_w, i32_w]
       rfl
      refine done_ (done_of HT_.out (by kernel_rfl)) ?_
      try go_wp2
      go_ret
      exact ⟨by first | rfl | (simp [errW_none, errW_some] <;> rfl) | (simp only [← hji14]; first | rfl | (simp [errW_none, errW_some] <;> rfl)) | (simp [*, errW_none, errW_some] <;> rfl), by repeat (first | (with_reducible first | exact HB.out | apply below_alloc | apply pw_below_drewN | apply below_drew1 | refine below_set ?_ GE245.out) | exact HB.out)⟩
     ·replace c11 := Bool.eq_false_iff.mpr c11
      subst c11
      have H1 : (if ((rd_T41 l0 a1).f0) = 5 then ((spec_l6Weight.f kj4 l0 ((rd_T41 l0 a1).f3)).bind fun t248 => (some (mn (wrap64 (t248 * (mx (mx 1 (wrap64 (((rd_T41 l0 a1).f5) + 1))) ((rd_T41 l0 a1).f6)))) 2001))) else (some (mn 1 2001))) = some r := by rw [if_neg (show ¬ (false = true) by decide)] at H; exact H
      clear H
      have H := H1
      clear H1
      by_cases c18 : ((rd_T41 l0 a1).f0) = 5
      ·rw [if_pos c18] at H
       have c18b0 : (((rd_T41 l0 a1).f0) == 5) = true := beq_iff_eq.mpr c18
       have c18b1 : (((rd_T41 l0 a1).f0) != 5) = false := bne_eq_false_iff_eq.mpr c18
       clear c18
       replace H := Option.bind_eq_some_iff.mp H
       obtain ⟨t248, A190, H⟩ := H
       replace H : (some (mn (wrap64 (t248 * (mx (mx 1 (wrap64 (((rd_T41 l0 a1).f5) + 1))) ((rd_T41 l0 a1).f6)))) 2001)) = some r := H
       have A19 := Aside0.mk A190
       clear A190
       obtain ⟨ji20, hji20⟩ : ∃ j_ : Int, (mx 1 (wrap64 (((rd_T41 l0 a1).f5) + 1))) = j_ := ⟨_, rfl⟩
       replace H : (some (mn (wrap64 (t248 * (mx (ji20) ((rd_T41 l0 a1).f6)))) 2001)) = some r := by first | (rw [hji20] at H; exact H) | (simp only [hji20] at H ⊢; exact H)
       (try rw [hji20] at A19)
       have hji20_ : (if 1 < (wrap64 (((rd_T41 l0 a1).f5) + 1)) then (wrap64 (((rd_T41 l0 a1).f5) + 1)) else 1) = ji20 := hji20
       obtain ⟨ji21, hji21⟩ : ∃ j_ : Int, (mx (ji20) ((rd_T41 l0 a1).f6)) = j_ := ⟨_, rfl⟩
       replace H : (some (mn (wrap64 (t248 * (ji21))) 2001)) = some r := by first | (rw [hji21] at H; exact H) | (simp only [hji21] at H ⊢; exact H)
       (try rw [hji21] at A19)
       have hji21_ : (if (ji20) < ((rd_T41 l0 a1).f6) then ((rd_T41 l0 a1).f6) else (ji20)) = ji21 := hji21
       obtain ⟨ji22, hji22⟩ : ∃ j_ : Int, (mn (wrap64 (t248 * (ji21))) 2001) = j_ := ⟨_, rfl⟩
       replace H : (some ji22) = some r := by first | (rw [hji22] at H; exact H) | (simp only [hji22] at H ⊢; exact H)
       (try rw [hji22] at A19)
       have hji22_ : (if 2001 < (wrap64 (t248 * (ji21))) then 2001 else (wrap64 (t248 * (ji21)))) = ji22 := hji22
       obtain rfl := Option.some.inj H
       try go_wp2
       have n0_ := Aside0.mk (blk_drew BK245.out)
       have n1_ := Aside0.mk (below_drew1 HB.out)
       clear BK245
       clear HB
       have BK245 := n0_
       have HB := n1_
       clear n0_ n1_
       refine start_ (n := 12) (S := fun w' => w'.cell? ⟨gb245, 0, none⟩ = some (.int .i64 ((rd_T41 l0 a1).f0)) ∧ w'.cell? ⟨gb245, 1, none⟩ = some (.bool ((rd_T41 l0 a1).f1)) ∧ w'.cell? ⟨gb245, 2, none⟩ = some (.slice A244_2 ((rd_T41 l0 a1).f2).length c244_2) ∧ w'.cell? ⟨gb245, 3, none⟩ = some (.int .i64 ((rd_T41 l0 a1).f3)) ∧ w'.cell? ⟨gb245, 4, none⟩ = some (.int .i64 ((rd_T41 l0 a1).f4)) ∧ w'.cell? ⟨gb245, 5, none⟩ = some (.int .i64 ((rd_T41 l0 a1).f5)) ∧ w'.cell? ⟨gb245, 6, none⟩ = some (.int .i64 ((rd_T41 l0 a1).f6))) (ds := []) #[false, false, false, false, false, false, false, false, false, false, false, false] (by kernel_rfl) rfl rfl ⟨(blk_cell BK245.out 0).trans rfl, (blk_cell BK245.out 1).trans rfl, (blk_cell BK245.out 2).trans rfl, (blk_cell BK245.out 3).trans rfl, (blk_cell BK245.out 4).trans rfl, (blk_cell BK245.out 5).trans rfl, (blk_cell BK245.out 6).trans rfl⟩ (fun hHeld => ?_); refine with_tabW spec_l6Weight.tab8 spec_l6Weight.bits8 (fun HT_ HW_ => ?_)
       generalize wc.drew = w23 at BK245 HB hHeld ⊢
       refine pure_ (i := 0) (N := some 27) (v := ?_) (a' := ?_) #[true, false, false, false, false, false, false, false, false, false, false, false] rfl rfl (any_of HT_.out (by kernel_rfl)) (fun _ _ _ h => h) (Or.inl ⟨by rfl, ?_⟩) ?_ ?_
       rotate_left
       ·intro w'
        go_simp
        with_reducible rfl
       rotate_left
       ·simp only [Act.put, List.setIfInBounds_toArray, List.set_cons_zero, List.set_cons_succ, i64_w, i32_w]
        rfl
       refine pure_ (i := 1) (N := some 28) (v := ?_) (a' := ?_) #[true, true, false, false, false, false, false, false, false, false, false, false] rfl rfl (any_of HT_.out (by kernel_rfl)) (fun _ _ _ h => h) (Or.inl ⟨by rfl, ?_⟩) ?_ ?_
       rotate_left
       ·intro w'
        go_simp
        with_reducible rfl
       rotate_left
       ·simp only [Act.put, List.setIfInBounds_toArray, List.set_cons_zero, List.set_cons_succ, i64_w, i32_w]
        rfl
       refine pure_ (i := 4) (N := some 31) (v := ?_) (a' := ?_) #[true, true, false, false, true, false, false, false, false, false, false, false] rfl rfl (any_of HT_.out (by kernel_rfl)) (fun _ _ _ h => h) (Or.inl ⟨by rfl, ?_⟩) ?_ ?_
       rotate_left
       ·intro w'
        go_simp
        with_reducible rfl
       rotate_left
       ·simp only [Act.put, List.setIfInBounds_toArray, List.set_cons_zero, List.set_cons_succ, i64_w, i32_w]
        rfl
       refine pure_ (i := 7) (N := some 34) (v := ?_) (a' := ?_) #[true, true, false, false, true, false, false, true, false, false, false, false] rfl rfl (any_of HT_.out (by kernel_rfl)) (fun _ _ _ h => h) (Or.inl ⟨by rfl, ?_⟩) ?_ ?_
       rotate_left
       ·intro w'
        go_simp
        with_reducible rfl
       rotate_left
       ·simp only [Act.put, List.setIfInBounds_toArray, List.set_cons_zero, List.set_cons_succ, i64_w, i32_w]
        rfl
       refine take_ (i := 2) (N := some 29) (v := ?_) (a' := ?_) #[true, true, true, false, true, false, false, true, false, false, false, false] rfl rfl (take_ofW HT_.out HW_.out (by kernel_rfl)) (fun _ _ _ h => h) (Or.inl ⟨by rfl, ?_⟩) hHeld ?_ ?_
       rotate_left
       ·rintro w' ⟨s0, s1, s2, s3, s4, s5, s6⟩
        go_simp
        with_reducible rfl
       rotate_left
       ·simp only [Act.put, List.setIfInBounds_toArray, List.set_cons_zero, List.set_cons_succ, i64_w, i32_w]
        rfl
       refine take_ (i := 5) (N := some 32) (v := ?_) (a' := ?_) #[true, true, true, false, true, true, false, true, false, false, false, false] rfl rfl (take_ofW HT_.out HW_.out (by kernel_rfl)) (fun _ _ _ h => h) (Or.inl ⟨by rfl, ?_⟩) hHeld ?_ ?_
       rotate_left
       ·rintro w' ⟨s0, s1, s2, s3, s4, s5, s6⟩
        go_simp
        with_reducible rfl
       rotate_left
       ·simp only [Act.put, List.setIfInBounds_toArray, List.set_cons_zero, List.set_cons_succ, i64_w, i32_w]
        rfl
       refine pure_ (i := 6) (N := some 33) (v := ?_) (a' := ?_) #[true, true, true, false, true, true, true, true, false, false, false, false] rfl rfl (any_of HT_.out (by kernel_rfl)) (fun _ _ _ h => h) (Or.inl ⟨by rfl, ?_⟩) ?_ ?_
       rotate_left
       ·intro w'
        go_simp
        with_reducible rfl
       rotate_left
       ·simp only [Act.put, List.setIfInBounds_toArray, List.set_cons_zero, List.set_cons_succ, i64_w, i32_w]
        rfl
       refine take_ (i := 8) (N := some 35) (v := ?_) (a' := ?_) #[true, true, true, false, true, true, true, true, true, false, false, false] rfl rfl (take_ofW HT_.out HW_.out (by kernel_rfl)) (fun _ _ _ h => h) (Or.inl ⟨by rfl, ?_⟩) hHeld ?_ ?_
       rotate_left
       ·rintro w' ⟨s0, s1, s2, s3, s4, s5, s6⟩
        go_simp
        with_reducible rfl
       rotate_left
       ·simp only [Act.put, List.setIfInBounds_toArray, List.set_cons_zero, List.set_cons_succ, i64_w, i32_w]
        rfl
       refine pure_ (i := 9) (N := some 36) (v := ?_) (a' := ?_) #[true, true, true, false, true, true, true, true, true, true, false, false] rfl rfl (any_of HT_.out (by kernel_rfl)) (fun _ _ _ h => h) (Or.inl ⟨by rfl, ?_⟩) ?_ ?_
       rotate_left
       ·intro w'
        go_simp
        with_reducible rfl
       rotate_left
       ·simp only [Act.put, List.setIfInBounds_toArray, List.set_cons_zero, List.set_cons_succ, i64_w, i32_w]
        rfl
       refine one_ (i := 3) (N := some 30) #[true, true, true, true, true, true, true, true, true, true, false, false] rfl rfl (one_of HT_.out (by kernel_rfl)) (by decide) (fun K hK => ?_)
       refine goes_ Try.func54 (by kernel_rfl) rfl #[.slice (some ad244) l0.length c0, .int .i64 ((rd_T41 l0 a1).f3)] (by rfl) rfl rfl (by (try simp only [List.map_toArray, List.map_cons, List.map_nil]); first | done | rfl | (simp only [List.length_drop, List.length_take]; rfl)) ?_
       with_reducible refine (ih kj4 (by have := HJ4.out; omega) _ _ l0 ((rd_T41 l0 a1).f3) t248 _ ?side1 ?side2 A19.out).mono ?_
       (case side1 => repeat (first | exact (Kd.C_below HR0.out HB.out) | (with_reducible refine Kd.C_alloc ?_ _) | (with_reducible refine Kd.C_drewN ?_ _) | (with_reducible refine Kd.C_drew ?_)))
       (case side2 => exact HC0.out)
       rintro e w24 ⟨rfl, hb⟩
       refine ⟨_, rfl, ?_⟩
       have n0_ := Aside0.mk (blk_below (g := gb245) (o := .cells #[.int .i64 ((rd_T41 l0 a1).f0), .bool ((rd_T41 l0 a1).f1), .slice A244_2 ((rd_T41 l0 a1).f2).length c244_2, .int .i64 ((rd_T41 l0 a1).f3), .int .i64 ((rd_T41 l0 a1).f4), .int .i64 ((rd_T41 l0 a1).f5), .int .i64 ((rd_T41 l0 a1).f6)] 41 (0, 0)) (by (with_reducible repeat (first | refine blk_drewN ?_ _ | refine blk_drew ?_ | refine blk_alloc ?_ _)); exact BK245.out) hb)
       have n1_ := Aside0.mk (below_step (by repeat (first | (with_reducible first | exact HB.out | apply below_alloc | apply pw_below_drewN | apply below_drew1 | refine below_set ?_ GE245.out) | exact HB.out)) hb)
       clear BK245
       clear HB
       have BK245 := n0_
       have HB := n1_
       clear n0_ n1_
       (try clear hb)
       (try clear hb2)
       (try clear hk)
       (try clear hi)
       refine hK.out _ _ ⟨(blk_cell BK245.out 0).trans rfl, (blk_cell BK245.out 1).trans rfl, (blk_cell BK245.out 2).trans rfl, (blk_cell BK245.out 3).trans rfl, (blk_cell BK245.out 4).trans rfl, (blk_cell BK245.out 5).trans rfl, (blk_cell BK245.out 6).trans rfl⟩ (fun hHeld => ?_)
       clear hK K
       refine norm_ (a' := ?_) ?_ ?_
       rotate_left
       ·show Act.put _ (some 30) _ = _
        simp only [Act.put, List.setIfInBounds_toArray, List.set_cons_zero, List.set_cons_succ, i64_w, i32_w]
        rfl
       refine pure_ (i := 10) (N := some 37) (v := ?_) (a' := ?_) #[true, true, true, true, true, true, true, true, true, true, true, false] rfl rfl (any_of HT_.out (by kernel_rfl)) (fun _ _ _ h => h) (Or.inl ⟨by rfl, ?_⟩) ?_ ?_
       rotate_left
       ·intro w'
        go_simp
        with_reducible rfl
       rotate_left
       ·simp only [Act.put, List.setIfInBounds_toArray, List.set_cons_zero, List.set_cons_succ, i64_w, i32_w]
        rfl
       refine pure_ (i := 11) (N := some 6) (v := ?_) (a' := ?_) #[true, true, true, true, true, true, true, true, true, true, true, true] rfl rfl (any_of HT_.out (by kernel_rfl)) (fun _ _ _ h => h) (Or.inl ⟨by rfl, ?_⟩) ?_ ?_
       rotate_left
       ·intro w'
        go_simp
        with_reducible rfl
       rotate_left
       ·simp only [Act.put, List.setIfInBounds_toArray, List.set_cons_zero, List.set_cons_succ, i64_w, i32_w]
        rfl
       refine done_ (done_of HT_.out (by kernel_rfl)) ?_
       try go_wp2
       go_ret
       exact ⟨by first | rfl | (simp [errW_none, errW_some] <;> rfl) | (simp only [← hji20, ← hji21, ← hji22]; first | rfl | (simp [errW_none, errW_some] <;> rfl)) | (simp [*, errW_none, errW_some] <;> rfl), by repeat (first | (with_reducible first | exact HB.out | apply below_alloc | apply pw_below_drewN | apply below_drew1 | refine below_set ?_ GE245.out) | exact HB.out)⟩
      ·rw [if_neg c18] at H
       have c18b0 : (((rd_T41 l0 a1).f0) == 5) = false := beq_eq_false_iff_ne.mpr c18
       have c18b1 : (((rd_T41 l0 a1).f0) != 5) = true := bne_iff_ne.mpr c18
       obtain ⟨ji25, hji25⟩ : ∃ j_ : Int, (mn 1 2001) = j_ := ⟨_, rfl⟩
       replace H : (some ji25) = some r := by first | (rw [hji25] at H; exact H) | (simp only [hji25] at H ⊢; exact H)
       have hji25_ : (if 2001 < 1 then 2001 else 1) = ji25 := hji25
       obtain rfl := Option.some.inj H
       go_wp2
       go_ret
       exact ⟨by first | rfl | (simp [errW_none, errW_some] <;> rfl) | (simp only [← hji25]; first | rfl | (simp [errW_none, errW_some] <;> rfl)) | (simp [*, errW_none, errW_some] <;> rfl), by repeat (first | (with_reducible first | exact HB.out | apply below_alloc | apply pw_below_drewN | apply below_drew1 | refine below_set ?_ GE245.out) | exact HB.out)⟩
  ·rw [if_neg c4] at H
   exact absurd H (by simp)
 ·rw [if_neg c3] at H
  exact absurd H (by simp)

end Go.Proofs.Ytomfhenoblfckaa.PK
