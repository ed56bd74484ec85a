-- Printed by this session's pdrive.py over the kit's printer.
import Derived.Test.YtomfhenoblfckaaDoorPTx0
import Derived.Test.YtomfhenoblfckaaDoorPTx2
import Derived.Test.YtomfhenoblfckaaDoorPTx3
import Derived.Test.YtomfhenoblfckaaDoorPTx4
namespace Go.Proofs.YtomfhenoblfckaaDoor.PT
open Go.RowKit Go.Proofs.YtomfhenoblfckaaDoorW.PrintWords Go.Proofs.YtomfhenoblfckaaDoorW.PrintLast Go.Proofs.YtomfhenoblfckaaDoorW.PrintMore Go.Proofs.YtomfhenoblfckaaDoorW.WordsB Go.Proofs.YtomfhenoblfckaaDoorW.GlM
attribute [local go_sem] max2_int min2_int max_two min_two max_three min_three max_four min_four   -- for this text's walks alone
set_option linter.unusedVariables false
set_option linter.unusedSimpArgs false

/-! ### laws_heldRNodeS: function 26 -/
def laws_heldRNodeS.l0 : Nat → List (S55) → Int → Int → Option (Int)
 | 0, _, _, _ => none
 | k + 1, x0, x1, x5 => if x5 < (x0.length : Int) then (if 0 ≤ x5 then (if ((rd_T55 x0 x5).f0) = x1 then (if (((rd_T55 x0 x5).f1) != ((Int.tmod (wrap64 (x1 + 1)) 3) == 0)) = true then (some (-1)) else ((laws_heldRangeS.f k ((rd_T55 x0 x5).f2) (wrap64 ((wrap64 (x1 + 1)) + 1))).bind fun t181 => (if t181 < 0 then (some (-1)) else (if ((rd_T55 x0 x5).f3) = t181 then (if ((rd_T55 x0 x5).f4) = (wrap64 (t181 + 1)) then (if ((rd_T55 x0 x5).f5) = (wrap64 ((wrap64 (t181 + 1)) + 1)) then (if ((rd_T55 x0 x5).f6) = (wrap64 ((wrap64 ((wrap64 (t181 + 1)) + 1)) + 1)) then (laws_heldRNodeS.l0 k x0 (wrap64 ((wrap64 ((wrap64 ((wrap64 (t181 + 1)) + 1)) + 1)) + 1)) (wrap64 (x5 + 1))) else (some (-1))) else (some (-1))) else (some (-1))) else (some (-1)))))) else (some (-1))) else (none)) else (some x1)
def laws_heldRNodeS.f (k : Nat) (l0 : List (S55)) (a1 : Int) : Option (Int) := laws_heldRNodeS.l0 k l0 a1 0
theorem laws_heldRNodeS.mono_l : ∀ k, (∀ y0 y1 y2, LeO (laws_heldRNodeS.l0 k y0 y1 y2) (laws_heldRNodeS.l0 (k + 1) y0 y1 y2))
 | 0 => fun _ _ _ r h => by simp [laws_heldRNodeS.l0] at h
 | k + 1 => by
  have ih0 := laws_heldRNodeS.mono_l k
  ·intro y0 y1 y2
   unfold laws_heldRNodeS.l0
   repeat' first
   | (with_reducible exact ih0 _ _ _)
   | (with_reducible exact laws_heldRangeS.mono _ _ _)
   | (with_reducible exact LeO.refl _)
   | (with_reducible exact LeO.none _)
   | (with_reducible refine LeO.ite ?_ ?_)
   | (with_reducible refine LeO.bind ?_ (fun _ => ?_))
   | exact ih0 _ _ _
   | exact laws_heldRangeS.mono _ _ _
   | exact LeO.none _
   | refine LeO.ite ?_ ?_
   | refine LeO.bind ?_ (fun _ => ?_)
theorem laws_heldRNodeS.mono : ∀ a0 a1 k, LeO (laws_heldRNodeS.f k a0 a1) (laws_heldRNodeS.f (k + 1) a0 a1) := by
 intro a0 a1 k
 have ih0 := laws_heldRNodeS.mono_l k
 unfold laws_heldRNodeS.f
 repeat' first
   | (with_reducible exact ih0 _ _ _)
   | (with_reducible exact laws_heldRangeS.mono _ _ _)
   | (with_reducible exact LeO.refl _)
   | (with_reducible exact LeO.none _)
   | (with_reducible refine LeO.ite ?_ ?_)
   | (with_reducible refine LeO.bind ?_ (fun _ => ?_))
   | exact ih0 _ _ _
   | exact laws_heldRangeS.mono _ _ _
   | exact LeO.none _
   | refine LeO.ite ?_ ?_
   | refine LeO.bind ?_ (fun _ => ?_)
set_option maxHeartbeats 8000000 in
set_option maxRecDepth 100000 in
theorem laws_heldRNodeS.calls (k : Nat) (A0 : Option Addr) (c0 : Nat) (l0 : List (S55)) (a1 : Int) (r : Int) (w : World) (hr0 : Kd.C k55 w A0 l0.length l0) (hc0 : l0.length ≤ c0) (h : laws_heldRNodeS.f k l0 a1 = some r) :
  Calls Tryd.prog 26 #[.slice A0 l0.length c0, .int .i64 a1] w fun e w' => e = .returned (.int .i64 r) ∧ Drawn0 w w' := by
 have HR0 := Aside0.mk hr0
 have HC0 := Aside0.mk hc0
 clear hr0 hc0
 have H : (laws_heldRNodeS.l0 k l0 a1 0) = some r := h
 clear h
 have H' := Aside0.mk H
 clear H
 go_enter Tryd.func26, Tryd.ntmps26
 go_wp2
 go_loopg [1, 5] k (fun kq v1 v5 w' => ∃ (x1_1 : Int) (x5_1 : Int), v1 = .int .i64 x1_1 ∧ v5 = .int .i64 x5_1 ∧ Aside0 (laws_heldRNodeS.l0 kq l0 x1_1 x5_1 = some r) ∧ Aside0 (kq ≤ k) ∧ Drawn0 w w')
 case atStart => exact ⟨(a1), (0), (by first | rfl | (simp; done) | (simp [*]; done)), (by first | rfl | (simp; done) | (simp [*]; done)), H', ⟨Nat.le_refl _⟩, by repeat (first | exact Drawn0.refl _ | apply Drawn0.step)⟩
 case round =>
  clear H'
  try clear c2
  try clear p2
  obtain ⟨x1_1, x5_1, rfl, rfl, HA, HK1, ⟨m1, rfl⟩⟩ := hrel
  cases gk with
  | zero => exact absurd HA.out (by simp [laws_heldRNodeS.l0])
  | succ k1 =>
   have H := HA.out
   clear HA
   simp only [laws_heldRNodeS.l0] at H
   by_cases c3 : x5_1 < (l0.length : Int)
   ·rw [if_pos c3] at H
    have c3b0 : decide (x5_1 < (l0.length : Int)) = true := decide_eq_true c3
    clear c3
    by_cases c4 : 0 ≤ x5_1
    ·rw [if_pos c4] at H
     have c4b0 : decide (0 ≤ x5_1) = true := decide_eq_true c4
     clear c4
     by_cases c5 : ((rd_T55 l0 x5_1).f0) = x1_1
     ·rw [if_pos c5] at H
      have c5b0 : (((rd_T55 l0 x5_1).f0) == x1_1) = true := beq_iff_eq.mpr c5
      have c5b1 : (((rd_T55 l0 x5_1).f0) != x1_1) = false := bne_eq_false_iff_eq.mpr c5
      clear c5
      by_cases c6 : (((rd_T55 l0 x5_1).f1) != ((Int.tmod (wrap64 (x1_1 + 1)) 3) == 0)) = true
      ·rw [if_pos c6] at H
       have c6b0 : (((rd_T55 l0 x5_1).f1) != ((Int.tmod (wrap64 (x1_1 + 1)) 3) == 0)) = true := c6
       (try (have c6b1 : decide (((rd_T55 l0 x5_1).f1) = ((Int.tmod (wrap64 (x1_1 + 1)) 3) == 0)) = false := by simpa using c6))
       (try (have c6b2 : (((rd_T55 l0 x5_1).f1) == ((Int.tmod (wrap64 (x1_1 + 1)) 3) == 0)) = false := by simpa using c6))
       (try (have c6b3 : ¬ (((rd_T55 l0 x5_1).f1) = ((Int.tmod (wrap64 (x1_1 + 1)) 3) == 0)) := by simpa using c6))
       clear c6
       obtain rfl := Option.some.inj H
       have p178 : 0 ≤ (x5_1 : Int) := of_decide_eq_true (by first | (with_reducible assumption) | assumption)
       have q178 : x5_1 < (l0.length : Int) := of_decide_eq_true (by first | (with_reducible assumption) | assumption)
       obtain ⟨ad178, A178_2, c178_2, e178, hx178_0, hx178_1, hx178_2, hx178_3, hx178_4, hx178_5, hx178_6, hl178_2, hi178_2⟩ := at_T55 HR0.out x5_1 p178 q178
       cases e178
       have HR178_2 := Aside0.mk hi178_2
       have HC178_2 := Aside0.mk hl178_2
       clear hi178_2 hl178_2
       replace p178 := eq_true p178
       replace q178 := eq_true q178
       have p179 : 0 ≤ (x5_1 : Int) := of_decide_eq_true (by first | (with_reducible assumption) | assumption)
       have q179 : x5_1 < (l0.length : Int) := of_decide_eq_true (by first | (with_reducible assumption) | assumption)
       obtain ⟨ad179, A179_2, c179_2, e179, hx179_0, hx179_1, hx179_2, hx179_3, hx179_4, hx179_5, hx179_6, hl179_2, hi179_2⟩ := at_T55 HR0.out x5_1 p179 q179
       obtain rfl : ad178 = ad179 := (by injection e179)
       have HR179_2 := Aside0.mk hi179_2
       have HC179_2 := Aside0.mk hl179_2
       clear hi179_2 hl179_2
       replace p179 := eq_true p179
       replace q179 := eq_true q179
       have ea_ := Option.some.inj (hx178_2.symm.trans hx179_2)
       injection ea_ with ea_ en_ ec_
       subst ea_
       subst ec_
       clear en_
       go_wp2
       go_ret
       exact ⟨by first | rfl | (simp; done) | (simp [*]; done), by repeat (first | exact Drawn0.refl _ | apply Drawn0.step)⟩
      ·rw [if_neg c6] at H
       have c6b0 : (((rd_T55 l0 x5_1).f1) != ((Int.tmod (wrap64 (x1_1 + 1)) 3) == 0)) = false := by simpa using c6
       (try (have c6b1 : decide (((rd_T55 l0 x5_1).f1) = ((Int.tmod (wrap64 (x1_1 + 1)) 3) == 0)) = true := by simpa using c6))
       (try (have c6b2 : (((rd_T55 l0 x5_1).f1) == ((Int.tmod (wrap64 (x1_1 + 1)) 3) == 0)) = true := by simpa using c6))
       clear c6
       replace H := Option.bind_eq_some_iff.mp H
       obtain ⟨t181, A70, H⟩ := H
       replace H : (if t181 < 0 then (some (-1)) else (if ((rd_T55 l0 x5_1).f3) = t181 then (if ((rd_T55 l0 x5_1).f4) = (wrap64 (t181 + 1)) then (if ((rd_T55 l0 x5_1).f5) = (wrap64 ((wrap64 (t181 + 1)) + 1)) then (if ((rd_T55 l0 x5_1).f6) = (wrap64 ((wrap64 ((wrap64 (t181 + 1)) + 1)) + 1)) then (laws_heldRNodeS.l0 k1 l0 (wrap64 ((wrap64 ((wrap64 ((wrap64 (t181 + 1)) + 1)) + 1)) + 1)) (wrap64 (x5_1 + 1))) else (some (-1))) else (some (-1))) else (some (-1))) else (some (-1)))) = some r := H
       have A7 := Aside0.mk A70
       clear A70
       by_cases c8 : t181 < 0
       ·rw [if_pos c8] at H
        have c8b0 : decide (t181 < 0) = true := decide_eq_true c8
        clear c8
        obtain rfl := Option.some.inj H
        have p178 : 0 ≤ (x5_1 : Int) := of_decide_eq_true (by first | (with_reducible assumption) | assumption)
        have q178 : x5_1 < (l0.length : Int) := of_decide_eq_true (by first | (with_reducible assumption) | assumption)
        obtain ⟨ad178, A178_2, c178_2, e178, hx178_0, hx178_1, hx178_2, hx178_3, hx178_4, hx178_5, hx178_6, hl178_2, hi178_2⟩ := at_T55 HR0.out x5_1 p178 q178
        cases e178
        have HR178_2 := Aside0.mk hi178_2
        have HC178_2 := Aside0.mk hl178_2
        clear hi178_2 hl178_2
        replace p178 := eq_true p178
        replace q178 := eq_true q178
        have p179 : 0 ≤ (x5_1 : Int) := of_decide_eq_true (by first | (with_reducible assumption) | assumption)
        have q179 : x5_1 < (l0.length : Int) := of_decide_eq_true (by first | (with_reducible assumption) | assumption)
        obtain ⟨ad179, A179_2, c179_2, e179, hx179_0, hx179_1, hx179_2, hx179_3, hx179_4, hx179_5, hx179_6, hl179_2, hi179_2⟩ := at_T55 HR0.out x5_1 p179 q179
        obtain rfl : ad178 = ad179 := (by injection e179)
        have HR179_2 := Aside0.mk hi179_2
        have HC179_2 := Aside0.mk hl179_2
        clear hi179_2 hl179_2
        replace p179 := eq_true p179
        replace q179 := eq_true q179
        have ea_ := Option.some.inj (hx178_2.symm.trans hx179_2)
        injection ea_ with ea_ en_ ec_
        subst ea_
        subst ec_
        clear en_
        have p180 : 0 ≤ (x5_1 : Int) := of_decide_eq_true (by first | (with_reducible assumption) | assumption)
        have q180 : x5_1 < (l0.length : Int) := of_decide_eq_true (by first | (with_reducible assumption) | assumption)
        obtain ⟨ad180, A180_2, c180_2, e180, hx180_0, hx180_1, hx180_2, hx180_3, hx180_4, hx180_5, hx180_6, hl180_2, hi180_2⟩ := at_T55 HR0.out x5_1 p180 q180
        obtain rfl : ad178 = ad180 := (by injection e180)
        have HR180_2 := Aside0.mk hi180_2
        have HC180_2 := Aside0.mk hl180_2
        clear hi180_2 hl180_2
        replace p180 := eq_true p180
        replace q180 := eq_true q180
        have ea_ := Option.some.inj (hx178_2.symm.trans hx180_2)
        injection ea_ with ea_ en_ ec_
        subst ea_
        subst ec_
        clear en_
        go_wp2_with (first | ((with_reducible refine gate_callee (f := 42) rfl ?_); refine goesL_ (some 38) rfl rfl Tryd.func42 (by kernel_rfl) rfl #[.slice A178_2 ((rd_T55 l0 x5_1).f2).length c178_2, .int .i64 (wrap64 ((wrap64 (x1_1 + 1)) + 1))] rfl (by (try simp only [List.map_toArray, List.map_cons, List.map_nil]); first | done | rfl | (simp only [List.length_drop, List.length_take]; rfl)) ?_; (with_reducible refine (laws_heldRangeS.calls k1 _ _ ((rd_T55 l0 x5_1).f2) (wrap64 ((wrap64 (x1_1 + 1)) + 1)) t181 _ ?side1 ?side2 A7.out).mono ?_); (case side1 => repeat (first | exact HR180_2.out | (with_reducible refine Kd.C_alloc ?_ _) | (with_reducible refine Kd.C_drewN ?_ _) | (with_reducible refine Kd.C_drew ?_))); (case side2 => exact HC180_2.out); rintro e w' ⟨rfl, ⟨nd, rfl⟩⟩; refine ⟨_, rfl, ?_⟩))
        go_ret
        exact ⟨by first | rfl | (simp; done) | (simp [*]; done), by repeat (first | exact Drawn0.refl _ | apply Drawn0.step)⟩
       ·rw [if_neg c8] at H
        have c8b0 : decide (t181 < 0) = false := decide_eq_false c8
        clear c8
        by_cases c9 : ((rd_T55 l0 x5_1).f3) = t181
        ·rw [if_pos c9] at H
         have c9b0 : (((rd_T55 l0 x5_1).f3) == t181) = true := beq_iff_eq.mpr c9
         have c9b1 : (((rd_T55 l0 x5_1).f3) != t181) = false := bne_eq_false_iff_eq.mpr c9
         clear c9
         by_cases c10 : ((rd_T55 l0 x5_1).f4) = (wrap64 (t181 + 1))
         ·rw [if_pos c10] at H
          have c10b0 : (((rd_T55 l0 x5_1).f4) == (wrap64 (t181 + 1))) = true := beq_iff_eq.mpr c10
          have c10b1 : (((rd_T55 l0 x5_1).f4) != (wrap64 (t181 + 1))) = false := bne_eq_false_iff_eq.mpr c10
          clear c10
          by_cases c11 : ((rd_T55 l0 x5_1).f5) = (wrap64 ((wrap64 (t181 + 1)) + 1))
          ·rw [if_pos c11] at H
           have c11b0 : (((rd_T55 l0 x5_1).f5) == (wrap64 ((wrap64 (t181 + 1)) + 1))) = true := beq_iff_eq.mpr c11
           have c11b1 : (((rd_T55 l0 x5_1).f5) != (wrap64 ((wrap64 (t181 + 1)) + 1))) = false := bne_eq_false_iff_eq.mpr c11
           clear c11
           by_cases c12 : ((rd_T55 l0 x5_1).f6) = (wrap64 ((wrap64 ((wrap64 (t181 + 1)) + 1)) + 1))
           ·rw [if_pos c12] at H
            have c12b0 : (((rd_T55 l0 x5_1).f6) == (wrap64 ((wrap64 ((wrap64 (t181 + 1)) + 1)) + 1))) = true := beq_iff_eq.mpr c12
            have c12b1 : (((rd_T55 l0 x5_1).f6) != (wrap64 ((wrap64 ((wrap64 (t181 + 1)) + 1)) + 1))) = false := bne_eq_false_iff_eq.mpr c12
            clear c12
            have H' := Aside0.mk H
            clear H
            have p178 : 0 ≤ (x5_1 : Int) := of_decide_eq_true (by first | (with_reducible assumption) | assumption)
            have q178 : x5_1 < (l0.length : Int) := of_decide_eq_true (by first | (with_reducible assumption) | assumption)
            obtain ⟨ad178, A178_2, c178_2, e178, hx178_0, hx178_1, hx178_2, hx178_3, hx178_4, hx178_5, hx178_6, hl178_2, hi178_2⟩ := at_T55 HR0.out x5_1 p178 q178
            cases e178
            have HR178_2 := Aside0.mk hi178_2
            have HC178_2 := Aside0.mk hl178_2
            clear hi178_2 hl178_2
            replace p178 := eq_true p178
            replace q178 := eq_true q178
            have p179 : 0 ≤ (x5_1 : Int) := of_decide_eq_true (by first | (with_reducible assumption) | assumption)
            have q179 : x5_1 < (l0.length : Int) := of_decide_eq_true (by first | (with_reducible assumption) | assumption)
            obtain ⟨ad179, A179_2, c179_2, e179, hx179_0, hx179_1, hx179_2, hx179_3, hx179_4, hx179_5, hx179_6, hl179_2, hi179_2⟩ := at_T55 HR0.out x5_1 p179 q179
            obtain rfl : ad178 = ad179 := (by injection e179)
            have HR179_2 := Aside0.mk hi179_2
            have HC179_2 := Aside0.mk hl179_2
            clear hi179_2 hl179_2
            replace p179 := eq_true p179
            replace q179 := eq_true q179
            have ea_ := Option.some.inj (hx178_2.symm.trans hx179_2)
            injection ea_ with ea_ en_ ec_
            subst ea_
            subst ec_
            clear en_
            have p180 : 0 ≤ (x5_1 : Int) := of_decide_eq_true (by first | (with_reducible assumption) | assumption)
            have q180 : x5_1 < (l0.length : Int) := of_decide_eq_true (by first | (with_reducible assumption) | assumption)
            obtain ⟨ad180, A180_2, c180_2, e180, hx180_0, hx180_1, hx180_2, hx180_3, hx180_4, hx180_5, hx180_6, hl180_2, hi180_2⟩ := at_T55 HR0.out x5_1 p180 q180
            obtain rfl : ad178 = ad180 := (by injection e180)
            have HR180_2 := Aside0.mk hi180_2
            have HC180_2 := Aside0.mk hl180_2
            clear hi180_2 hl180_2
            replace p180 := eq_true p180
            replace q180 := eq_true q180
            have ea_ := Option.some.inj (hx178_2.symm.trans hx180_2)
            injection ea_ with ea_ en_ ec_
            subst ea_
            subst ec_
            clear en_
            go_wp2_with (first | ((with_reducible refine gate_callee (f := 42) rfl ?_); refine goesL_ (some 38) rfl rfl Tryd.func42 (by kernel_rfl) rfl #[.slice A178_2 ((rd_T55 l0 x5_1).f2).length c178_2, .int .i64 (wrap64 ((wrap64 (x1_1 + 1)) + 1))] rfl (by (try simp only [List.map_toArray, List.map_cons, List.map_nil]); first | done | rfl | (simp only [List.length_drop, List.length_take]; rfl)) ?_; (with_reducible refine (laws_heldRangeS.calls k1 _ _ ((rd_T55 l0 x5_1).f2) (wrap64 ((wrap64 (x1_1 + 1)) + 1)) t181 _ ?side1 ?side2 A7.out).mono ?_); (case side1 => repeat (first | exact HR180_2.out | (with_reducible refine Kd.C_alloc ?_ _) | (with_reducible refine Kd.C_drewN ?_ _) | (with_reducible refine Kd.C_drew ?_))); (case side2 => exact HC180_2.out); rintro e w' ⟨rfl, ⟨nd, rfl⟩⟩; refine ⟨_, rfl, ?_⟩; have p182 : 0 ≤ (x5_1 : Int) := of_decide_eq_true (by first | (with_reducible assumption) | assumption); have q182 : x5_1 < (l0.length : Int) := of_decide_eq_true (by first | (with_reducible assumption) | assumption); obtain ⟨ad182, A182_2, c182_2, e182, hx182_0, hx182_1, hx182_2, hx182_3, hx182_4, hx182_5, hx182_6, hl182_2, hi182_2⟩ := at_T55 HR0.out x5_1 p182 q182; obtain rfl : ad178 = ad182 := (by injection e182); have HR182_2 := Aside0.mk hi182_2; have HC182_2 := Aside0.mk hl182_2; clear hi182_2 hl182_2; replace p182 := eq_true p182; replace q182 := eq_true q182; have ea_ := Option.some.inj (hx178_2.symm.trans hx182_2); injection ea_ with ea_ en_ ec_; subst ea_; subst ec_; clear en_; have p183 : 0 ≤ (x5_1 : Int) := of_decide_eq_true (by first | (with_reducible assumption) | assumption); have q183 : x5_1 < (l0.length : Int) := of_decide_eq_true (by first | (with_reducible assumption) | assumption); obtain ⟨ad183, A183_2, c183_2, e183, hx183_0, hx183_1, hx183_2, hx183_3, hx183_4, hx183_5, hx183_6, hl183_2, hi183_2⟩ := at_T55 HR0.out x5_1 p183 q183; obtain rfl : ad178 = ad183 := (by injection e183); have HR183_2 := Aside0.mk hi183_2; have HC183_2 := Aside0.mk hl183_2; clear hi183_2 hl183_2; replace p183 := eq_true p183; replace q183 := eq_true q183; have ea_ := Option.some.inj (hx178_2.symm.trans hx183_2); injection ea_ with ea_ en_ ec_; subst ea_; subst ec_; clear en_; have p184 : 0 ≤ (x5_1 : Int) := of_decide_eq_true (by first | (with_reducible assumption) | assumption); have q184 : x5_1 < (l0.length : Int) := of_decide_eq_true (by first | (with_reducible assumption) | assumption); obtain ⟨ad184, A184_2, c184_2, e184, hx184_0, hx184_1, hx184_2, hx184_3, hx184_4, hx184_5, hx184_6, hl184_2, hi184_2⟩ := at_T55 HR0.out x5_1 p184 q184; obtain rfl : ad178 = ad184 := (by injection e184); have HR184_2 := Aside0.mk hi184_2; have HC184_2 := Aside0.mk hl184_2; clear hi184_2 hl184_2; replace p184 := eq_true p184; replace q184 := eq_true q184; have ea_ := Option.some.inj (hx178_2.symm.trans hx184_2); injection ea_ with ea_ en_ ec_; subst ea_; subst ec_; clear en_; have p185 : 0 ≤ (x5_1 : Int) := of_decide_eq_true (by first | (with_reducible assumption) | assumption); have q185 : x5_1 < (l0.length : Int) := of_decide_eq_true (by first | (with_reducible assumption) | assumption); obtain ⟨ad185, A185_2, c185_2, e185, hx185_0, hx185_1, hx185_2, hx185_3, hx185_4, hx185_5, hx185_6, hl185_2, hi185_2⟩ := at_T55 HR0.out x5_1 p185 q185; obtain rfl : ad178 = ad185 := (by injection e185); have HR185_2 := Aside0.mk hi185_2; have HC185_2 := Aside0.mk hl185_2; clear hi185_2 hl185_2; replace p185 := eq_true p185; replace q185 := eq_true q185; have ea_ := Option.some.inj (hx178_2.symm.trans hx185_2); injection ea_ with ea_ en_ ec_; subst ea_; subst ec_; clear en_))
            go_roundg k1
            case measure => have := HK1.out; omega
            case rel => exact ⟨(wrap64 ((wrap64 ((wrap64 ((wrap64 (t181 + 1)) + 1)) + 1)) + 1)), (wrap64 (x5_1 + 1)), (by first | rfl | (simp; done) | (simp [*]; done)), (by first | rfl | (simp; done) | (simp [*]; done)), H', ⟨by have := HK1.out; omega⟩, by repeat (first | exact Drawn0.refl _ | apply Drawn0.step)⟩
           ·rw [if_neg c12] at H
            have c12b0 : (((rd_T55 l0 x5_1).f6) == (wrap64 ((wrap64 ((wrap64 (t181 + 1)) + 1)) + 1))) = false := beq_eq_false_iff_ne.mpr c12
            have c12b1 : (((rd_T55 l0 x5_1).f6) != (wrap64 ((wrap64 ((wrap64 (t181 + 1)) + 1)) + 1))) = true := bne_iff_ne.mpr c12
            obtain rfl := Option.some.inj H
            have p178 : 0 ≤ (x5_1 : Int) := of_decide_eq_true (by first | (with_reducible assumption) | assumption)
            have q178 : x5_1 < (l0.length : Int) := of_decide_eq_true (by first | (with_reducible assumption) | assumption)
            obtain ⟨ad178, A178_2, c178_2, e178, hx178_0, hx178_1, hx178_2, hx178_3, hx178_4, hx178_5, hx178_6, hl178_2, hi178_2⟩ := at_T55 HR0.out x5_1 p178 q178
            cases e178
            have HR178_2 := Aside0.mk hi178_2
            have HC178_2 := Aside0.mk hl178_2
            clear hi178_2 hl178_2
            replace p178 := eq_true p178
            replace q178 := eq_true q178
            have p179 : 0 ≤ (x5_1 : Int) := of_decide_eq_true (by first | (with_reducible assumption) | assumption)
            have q179 : x5_1 < (l0.length : Int) := of_decide_eq_true (by first | (with_reducible assumption) | assumption)
            obtain ⟨ad179, A179_2, c179_2, e179, hx179_0, hx179_1, hx179_2, hx179_3, hx179_4, hx179_5, hx179_6, hl179_2, hi179_2⟩ := at_T55 HR0.out x5_1 p179 q179
            obtain rfl : ad178 = ad179 := (by injection e179)
            have HR179_2 := Aside0.mk hi179_2
            have HC179_2 := Aside0.mk hl179_2
            clear hi179_2 hl179_2
            replace p179 := eq_true p179
            replace q179 := eq_true q179
            have ea_ := Option.some.inj (hx178_2.symm.trans hx179_2)
            injection ea_ with ea_ en_ ec_
            subst ea_
            subst ec_
            clear en_
            have p180 : 0 ≤ (x5_1 : Int) := of_decide_eq_true (by first | (with_reducible assumption) | assumption)
            have q180 : x5_1 < (l0.length : Int) := of_decide_eq_true (by first | (with_reducible assumption) | assumption)
            obtain ⟨ad180, A180_2, c180_2, e180, hx180_0, hx180_1, hx180_2, hx180_3, hx180_4, hx180_5, hx180_6, hl180_2, hi180_2⟩ := at_T55 HR0.out x5_1 p180 q180
            obtain rfl : ad178 = ad180 := (by injection e180)
            have HR180_2 := Aside0.mk hi180_2
            have HC180_2 := Aside0.mk hl180_2
            clear hi180_2 hl180_2
            replace p180 := eq_true p180
            replace q180 := eq_true q180
            have ea_ := Option.some.inj (hx178_2.symm.trans hx180_2)
            injection ea_ with ea_ en_ ec_
            subst ea_
            subst ec_
            clear en_
            go_wp2_with (first | ((with_reducible refine gate_callee (f := 42) rfl ?_); refine goesL_ (some 38) rfl rfl Tryd.func42 (by kernel_rfl) rfl #[.slice A178_2 ((rd_T55 l0 x5_1).f2).length c178_2, .int .i64 (wrap64 ((wrap64 (x1_1 + 1)) + 1))] rfl (by (try simp only [List.map_toArray, List.map_cons, List.map_nil]); first | done | rfl | (simp only [List.length_drop, List.length_take]; rfl)) ?_; (with_reducible refine (laws_heldRangeS.calls k1 _ _ ((rd_T55 l0 x5_1).f2) (wrap64 ((wrap64 (x1_1 + 1)) + 1)) t181 _ ?side1 ?side2 A7.out).mono ?_); (case side1 => repeat (first | exact HR180_2.out | (with_reducible refine Kd.C_alloc ?_ _) | (with_reducible refine Kd.C_drewN ?_ _) | (with_reducible refine Kd.C_drew ?_))); (case side2 => exact HC180_2.out); rintro e w' ⟨rfl, ⟨nd, rfl⟩⟩; refine ⟨_, rfl, ?_⟩; have p182 : 0 ≤ (x5_1 : Int) := of_decide_eq_true (by first | (with_reducible assumption) | assumption); have q182 : x5_1 < (l0.length : Int) := of_decide_eq_true (by first | (with_reducible assumption) | assumption); obtain ⟨ad182, A182_2, c182_2, e182, hx182_0, hx182_1, hx182_2, hx182_3, hx182_4, hx182_5, hx182_6, hl182_2, hi182_2⟩ := at_T55 HR0.out x5_1 p182 q182; obtain rfl : ad178 = ad182 := (by injection e182); have HR182_2 := Aside0.mk hi182_2; have HC182_2 := Aside0.mk hl182_2; clear hi182_2 hl182_2; replace p182 := eq_true p182; replace q182 := eq_true q182; have ea_ := Option.some.inj (hx178_2.symm.trans hx182_2); injection ea_ with ea_ en_ ec_; subst ea_; subst ec_; clear en_; have p183 : 0 ≤ (x5_1 : Int) := of_decide_eq_true (by first | (with_reducible assumption) | assumption); have q183 : x5_1 < (l0.length : Int) := of_decide_eq_true (by first | (with_reducible assumption) | assumption); obtain ⟨ad183, A183_2, c183_2, e183, hx183_0, hx183_1, hx183_2, hx183_3, hx183_4, hx183_5, hx183_6, hl183_2, hi183_2⟩ := at_T55 HR0.out x5_1 p183 q183; obtain rfl : ad178 = ad183 := (by injection e183); have HR183_2 := Aside0.mk hi183_2; have HC183_2 := Aside0.mk hl183_2; clear hi183_2 hl183_2; replace p183 := eq_true p183; replace q183 := eq_true q183; have ea_ := Option.some.inj (hx178_2.symm.trans hx183_2); injection ea_ with ea_ en_ ec_; subst ea_; subst ec_; clear en_; have p184 : 0 ≤ (x5_1 : Int) := of_decide_eq_true (by first | (with_reducible assumption) | assumption); have q184 : x5_1 < (l0.length : Int) := of_decide_eq_true (by first | (with_reducible assumption) | assumption); obtain ⟨ad184, A184_2, c184_2, e184, hx184_0, hx184_1, hx184_2, hx184_3, hx184_4, hx184_5, hx184_6, hl184_2, hi184_2⟩ := at_T55 HR0.out x5_1 p184 q184; obtain rfl : ad178 = ad184 := (by injection e184); have HR184_2 := Aside0.mk hi184_2; have HC184_2 := Aside0.mk hl184_2; clear hi184_2 hl184_2; replace p184 := eq_true p184; replace q184 := eq_true q184; have ea_ := Option.some.inj (hx178_2.symm.trans hx184_2); injection ea_ with ea_ en_ ec_; subst ea_; subst ec_; clear en_; have p185 : 0 ≤ (x5_1 : Int) := of_decide_eq_true (by first | (with_reducible assumption) | assumption); have q185 : x5_1 < (l0.length : Int) := of_decide_eq_true (by first | (with_reducible assumption) | assumption); obtain ⟨ad185, A185_2, c185_2, e185, hx185_0, hx185_1, hx185_2, hx185_3, hx185_4, hx185_5, hx185_6, hl185_2, hi185_2⟩ := at_T55 HR0.out x5_1 p185 q185; obtain rfl : ad178 = ad185 := (by injection e185); have HR185_2 := Aside0.mk hi185_2; have HC185_2 := Aside0.mk hl185_2; clear hi185_2 hl185_2; replace p185 := eq_true p185; replace q185 := eq_true q185; have ea_ := Option.some.inj (hx178_2.symm.trans hx185_2); injection ea_ with ea_ en_ ec_; subst ea_; subst ec_; clear en_))
            go_ret
            exact ⟨by first | rfl | (simp; done) | (simp [*]; done), by repeat (first | exact Drawn0.refl _ | apply Drawn0.step)⟩
          ·rw [if_neg c11] at H
           have c11b0 : (((rd_T55 l0 x5_1).f5) == (wrap64 ((wrap64 (t181 + 1)) + 1))) = false := beq_eq_false_iff_ne.mpr c11
           have c11b1 : (((rd_T55 l0 x5_1).f5) != (wrap64 ((wrap64 (t181 + 1)) + 1))) = true := bne_iff_ne.mpr c11
           obtain rfl := Option.some.inj H
           have p178 : 0 ≤ (x5_1 : Int) := of_decide_eq_true (by first | (with_reducible assumption) | assumption)
           have q178 : x5_1 < (l0.length : Int) := of_decide_eq_true (by first | (with_reducible assumption) | assumption)
           obtain ⟨ad178, A178_2, c178_2, e178, hx178_0, hx178_1, hx178_2, hx178_3, hx178_4, hx178_5, hx178_6, hl178_2, hi178_2⟩ := at_T55 HR0.out x5_1 p178 q178
           cases e178
           have HR178_2 := Aside0.mk hi178_2
           have HC178_2 := Aside0.mk hl178_2
           clear hi178_2 hl178_2
           replace p178 := eq_true p178
           replace q178 := eq_true q178
           have p179 : 0 ≤ (x5_1 : Int) := of_decide_eq_true (by first | (with_reducible assumption) | assumption)
           have q179 : x5_1 < (l0.length : Int) := of_decide_eq_true (by first | (with_reducible assumption) | assumption)
           obtain ⟨ad179, A179_2, c179_2, e179, hx179_0, hx179_1, hx179_2, hx179_3, hx179_4, hx179_5, hx179_6, hl179_2, hi179_2⟩ := at_T55 HR0.out x5_1 p179 q179
           obtain rfl : ad178 = ad179 := (by injection e179)
           have HR179_2 := Aside0.mk hi179_2
           have HC179_2 := Aside0.mk hl179_2
           clear hi179_2 hl179_2
           replace p179 := eq_true p179
           replace q179 := eq_true q179
           have ea_ := Option.some.inj (hx178_2.symm.trans hx179_2)
           injection ea_ with ea_ en_ ec_
           subst ea_
           subst ec_
           clear en_
           have p180 : 0 ≤ (x5_1 : Int) := of_decide_eq_true (by first | (with_reducible assumption) | assumption)
           have q180 : x5_1 < (l0.length : Int) := of_decide_eq_true (by first | (with_reducible assumption) | assumption)
           obtain ⟨ad180, A180_2, c180_2, e180, hx180_0, hx180_1, hx180_2, hx180_3, hx180_4, hx180_5, hx180_6, hl180_2, hi180_2⟩ := at_T55 HR0.out x5_1 p180 q180
           obtain rfl : ad178 = ad180 := (by injection e180)
           have HR180_2 := Aside0.mk hi180_2
           have HC180_2 := Aside0.mk hl180_2
           clear hi180_2 hl180_2
           replace p180 := eq_true p180
           replace q180 := eq_true q180
           have ea_ := Option.some.inj (hx178_2.symm.trans hx180_2)
           injection ea_ with ea_ en_ ec_
           subst ea_
           subst ec_
           clear en_
           go_wp2_with (first | ((with_reducible refine gate_callee (f := 42) rfl ?_); refine goesL_ (some 38) rfl rfl Tryd.func42 (by kernel_rfl) rfl #[.slice A178_2 ((rd_T55 l0 x5_1).f2).length c178_2, .int .i64 (wrap64 ((wrap64 (x1_1 + 1)) + 1))] rfl (by (try simp only [List.map_toArray, List.map_cons, List.map_nil]); first | done | rfl | (simp only [List.length_drop, List.length_take]; rfl)) ?_; (with_reducible refine (laws_heldRangeS.calls k1 _ _ ((rd_T55 l0 x5_1).f2) (wrap64 ((wrap64 (x1_1 + 1)) + 1)) t181 _ ?side1 ?side2 A7.out).mono ?_); (case side1 => repeat (first | exact HR180_2.out | (with_reducible refine Kd.C_alloc ?_ _) | (with_reducible refine Kd.C_drewN ?_ _) | (with_reducible refine Kd.C_drew ?_))); (case side2 => exact HC180_2.out); rintro e w' ⟨rfl, ⟨nd, rfl⟩⟩; refine ⟨_, rfl, ?_⟩; have p182 : 0 ≤ (x5_1 : Int) := of_decide_eq_true (by first | (with_reducible assumption) | assumption); have q182 : x5_1 < (l0.length : Int) := of_decide_eq_true (by first | (with_reducible assumption) | assumption); obtain ⟨ad182, A182_2, c182_2, e182, hx182_0, hx182_1, hx182_2, hx182_3, hx182_4, hx182_5, hx182_6, hl182_2, hi182_2⟩ := at_T55 HR0.out x5_1 p182 q182; obtain rfl : ad178 = ad182 := (by injection e182); have HR182_2 := Aside0.mk hi182_2; have HC182_2 := Aside0.mk hl182_2; clear hi182_2 hl182_2; replace p182 := eq_true p182; replace q182 := eq_true q182; have ea_ := Option.some.inj (hx178_2.symm.trans hx182_2); injection ea_ with ea_ en_ ec_; subst ea_; subst ec_; clear en_; have p183 : 0 ≤ (x5_1 : Int) := of_decide_eq_true (by first | (with_reducible assumption) | assumption); have q183 : x5_1 < (l0.length : Int) := of_decide_eq_true (by first | (with_reducible assumption) | assumption); obtain ⟨ad183, A183_2, c183_2, e183, hx183_0, hx183_1, hx183_2, hx183_3, hx183_4, hx183_5, hx183_6, hl183_2, hi183_2⟩ := at_T55 HR0.out x5_1 p183 q183; obtain rfl : ad178 = ad183 := (by injection e183); have HR183_2 := Aside0.mk hi183_2; have HC183_2 := Aside0.mk hl183_2; clear hi183_2 hl183_2; replace p183 := eq_true p183; replace q183 := eq_true q183; have ea_ := Option.some.inj (hx178_2.symm.trans hx183_2); injection ea_ with ea_ en_ ec_; subst ea_; subst ec_; clear en_; have p184 : 0 ≤ (x5_1 : Int) := of_decide_eq_true (by first | (with_reducible assumption) | assumption); have q184 : x5_1 < (l0.length : Int) := of_decide_eq_true (by first | (with_reducible assumption) | assumption); obtain ⟨ad184, A184_2, c184_2, e184, hx184_0, hx184_1, hx184_2, hx184_3, hx184_4, hx184_5, hx184_6, hl184_2, hi184_2⟩ := at_T55 HR0.out x5_1 p184 q184; obtain rfl : ad178 = ad184 := (by injection e184); have HR184_2 := Aside0.mk hi184_2; have HC184_2 := Aside0.mk hl184_2; clear hi184_2 hl184_2; replace p184 := eq_true p184; replace q184 := eq_true q184; have ea_ := Option.some.inj (hx178_2.symm.trans hx184_2); injection ea_ with ea_ en_ ec_; subst ea_; subst ec_; clear en_))
           go_ret
           exact ⟨by first | rfl | (simp; done) | (simp [*]; done), by repeat (first | exact Drawn0.refl _ | apply Drawn0.step)⟩
         ·rw [if_neg c10] at H
          have c10b0 : (((rd_T55 l0 x5_1).f4) == (wrap64 (t181 + 1))) = false := beq_eq_false_iff_ne.mpr c10
          have c10b1 : (((rd_T55 l0 x5_1).f4) != (wrap64 (t181 + 1))) = true := bne_iff_ne.mpr c10
          obtain rfl := Option.some.inj H
          have p178 : 0 ≤ (x5_1 : Int) := of_decide_eq_true (by first | (with_reducible assumption) | assumption)
          have q178 : x5_1 < (l0.length : Int) := of_decide_eq_true (by first | (with_reducible assumption) | assumption)
          obtain ⟨ad178, A178_2, c178_2, e178, hx178_0, hx178_1, hx178_2, hx178_3, hx178_4, hx178_5, hx178_6, hl178_2, hi178_2⟩ := at_T55 HR0.out x5_1 p178 q178
          cases e178
          have HR178_2 := Aside0.mk hi178_2
          have HC178_2 := Aside0.mk hl178_2
          clear hi178_2 hl178_2
          replace p178 := eq_true p178
          replace q178 := eq_true q178
          have p179 : 0 ≤ (x5_1 : Int) := of_decide_eq_true (by first | (with_reducible assumption) | assumption)
          have q179 : x5_1 < (l0.length : Int) := of_decide_eq_true (by first | (with_reducible assumption) | assumption)
          obtain ⟨ad179, A179_2, c179_2, e179, hx179_0, hx179_1, hx179_2, hx179_3, hx179_4, hx179_5, hx179_6, hl179_2, hi179_2⟩ := at_T55 HR0.out x5_1 p179 q179
          obtain rfl : ad178 = ad179 := (by injection e179)
          have HR179_2 := Aside0.mk hi179_2
          have HC179_2 := Aside0.mk hl179_2
          clear hi179_2 hl179_2
          replace p179 := eq_true p179
          replace q179 := eq_true q179
          have ea_ := Option.some.inj (hx178_2.symm.trans hx179_2)
          injection ea_ with ea_ en_ ec_
          subst ea_
          subst ec_
          clear en_
          have p180 : 0 ≤ (x5_1 : Int) := of_decide_eq_true (by first | (with_reducible assumption) | assumption)
          have q180 : x5_1 < (l0.length : Int) := of_decide_eq_true (by first | (with_reducible assumption) | assumption)
          obtain ⟨ad180, A180_2, c180_2, e180, hx180_0, hx180_1, hx180_2, hx180_3, hx180_4, hx180_5, hx180_6, hl180_2, hi180_2⟩ := at_T55 HR0.out x5_1 p180 q180
          obtain rfl : ad178 = ad180 := (by injection e180)
          have HR180_2 := Aside0.mk hi180_2
          have HC180_2 := Aside0.mk hl180_2
          clear hi180_2 hl180_2
          replace p180 := eq_true p180
          replace q180 := eq_true q180
          have ea_ := Option.some.inj (hx178_2.symm.trans hx180_2)
          injection ea_ with ea_ en_ ec_
          subst ea_
          subst ec_
          clear en_
          go_wp2_with (first | ((with_reducible refine gate_callee (f := 42) rfl ?_); refine goesL_ (some 38) rfl rfl Tryd.func42 (by kernel_rfl) rfl #[.slice A178_2 ((rd_T55 l0 x5_1).f2).length c178_2, .int .i64 (wrap64 ((wrap64 (x1_1 + 1)) + 1))] rfl (by (try simp only [List.map_toArray, List.map_cons, List.map_nil]); first | done | rfl | (simp only [List.length_drop, List.length_take]; rfl)) ?_; (with_reducible refine (laws_heldRangeS.calls k1 _ _ ((rd_T55 l0 x5_1).f2) (wrap64 ((wrap64 (x1_1 + 1)) + 1)) t181 _ ?side1 ?side2 A7.out).mono ?_); (case side1 => repeat (first | exact HR180_2.out | (with_reducible refine Kd.C_alloc ?_ _) | (with_reducible refine Kd.C_drewN ?_ _) | (with_reducible refine Kd.C_drew ?_))); (case side2 => exact HC180_2.out); rintro e w' ⟨rfl, ⟨nd, rfl⟩⟩; refine ⟨_, rfl, ?_⟩; have p182 : 0 ≤ (x5_1 : Int) := of_decide_eq_true (by first | (with_reducible assumption) | assumption); have q182 : x5_1 < (l0.length : Int) := of_decide_eq_true (by first | (with_reducible assumption) | assumption); obtain ⟨ad182, A182_2, c182_2, e182, hx182_0, hx182_1, hx182_2, hx182_3, hx182_4, hx182_5, hx182_6, hl182_2, hi182_2⟩ := at_T55 HR0.out x5_1 p182 q182; obtain rfl : ad178 = ad182 := (by injection e182); have HR182_2 := Aside0.mk hi182_2; have HC182_2 := Aside0.mk hl182_2; clear hi182_2 hl182_2; replace p182 := eq_true p182; replace q182 := eq_true q182; have ea_ := Option.some.inj (hx178_2.symm.trans hx182_2); injection ea_ with ea_ en_ ec_; subst ea_; subst ec_; clear en_; have p183 : 0 ≤ (x5_1 : Int) := of_decide_eq_true (by first | (with_reducible assumption) | assumption); have q183 : x5_1 < (l0.length : Int) := of_decide_eq_true (by first | (with_reducible assumption) | assumption); obtain ⟨ad183, A183_2, c183_2, e183, hx183_0, hx183_1, hx183_2, hx183_3, hx183_4, hx183_5, hx183_6, hl183_2, hi183_2⟩ := at_T55 HR0.out x5_1 p183 q183; obtain rfl : ad178 = ad183 := (by injection e183); have HR183_2 := Aside0.mk hi183_2; have HC183_2 := Aside0.mk hl183_2; clear hi183_2 hl183_2; replace p183 := eq_true p183; replace q183 := eq_true q183; have ea_ := Option.some.inj (hx178_2.symm.trans hx183_2); injection ea_ with ea_ en_ ec_; subst ea_; subst ec_; clear en_))
          go_ret
          exact ⟨by first | rfl | (simp; done) | (simp [*]; done), by repeat (first | exact Drawn0.refl _ | apply Drawn0.step)⟩
        ·rw [if_neg c9] at H
         have c9b0 : (((rd_T55 l0 x5_1).f3) == t181) = false := beq_eq_false_iff_ne.mpr c9
         have c9b1 : (((rd_T55 l0 x5_1).f3) != t181) = true := bne_iff_ne.mpr c9
         obtain rfl := Option.some.inj H
         have p178 : 0 ≤ (x5_1 : Int) := of_decide_eq_true (by first | (with_reducible assumption) | assumption)
         have q178 : x5_1 < (l0.length : Int) := of_decide_eq_true (by first | (with_reducible assumption) | assumption)
         obtain ⟨ad178, A178_2, c178_2, e178, hx178_0, hx178_1, hx178_2, hx178_3, hx178_4, hx178_5, hx178_6, hl178_2, hi178_2⟩ := at_T55 HR0.out x5_1 p178 q178
         cases e178
         have HR178_2 := Aside0.mk hi178_2
         have HC178_2 := Aside0.mk hl178_2
         clear hi178_2 hl178_2
         replace p178 := eq_true p178
         replace q178 := eq_true q178
         have p179 : 0 ≤ (x5_1 : Int) := of_decide_eq_true (by first | (with_reducible assumption) | assumption)
         have q179 : x5_1 < (l0.length : Int) := of_decide_eq_true (by first | (with_reducible assumption) | assumption)
         obtain ⟨ad179, A179_2, c179_2, e179, hx179_0, hx179_1, hx179_2, hx179_3, hx179_4, hx179_5, hx179_6, hl179_2, hi179_2⟩ := at_T55 HR0.out x5_1 p179 q179
         obtain rfl : ad178 = ad179 := (by injection e179)
         have HR179_2 := Aside0.mk hi179_2
         have HC179_2 := Aside0.mk hl179_2
         clear hi179_2 hl179_2
         replace p179 := eq_true p179
         replace q179 := eq_true q179
         have ea_ := Option.some.inj (hx178_2.symm.trans hx179_2)
         injection ea_ with ea_ en_ ec_
         subst ea_
         subst ec_
         clear en_
         have p180 : 0 ≤ (x5_1 : Int) := of_decide_eq_true (by first | (with_reducible assumption) | assumption)
         have q180 : x5_1 < (l0.length : Int) := of_decide_eq_true (by first | (with_reducible assumption) | assumption)
         obtain ⟨ad180, A180_2, c180_2, e180, hx180_0, hx180_1, hx180_2, hx180_3, hx180_4, hx180_5, hx180_6, hl180_2, hi180_2⟩ := at_T55 HR0.out x5_1 p180 q180
         obtain rfl : ad178 = ad180 := (by injection e180)
         have HR180_2 := Aside0.mk hi180_2
         have HC180_2 := Aside0.mk hl180_2
         clear hi180_2 hl180_2
         replace p180 := eq_true p180
         replace q180 := eq_true q180
         have ea_ := Option.some.inj (hx178_2.symm.trans hx180_2)
         injection ea_ with ea_ en_ ec_
         subst ea_
         subst ec_
         clear en_
         go_wp2_with (first | ((with_reducible refine gate_callee (f := 42) rfl ?_); refine goesL_ (some 38) rfl rfl Tryd.func42 (by kernel_rfl) rfl #[.slice A178_2 ((rd_T55 l0 x5_1).f2).length c178_2, .int .i64 (wrap64 ((wrap64 (x1_1 + 1)) + 1))] rfl (by (try simp only [List.map_toArray, List.map_cons, List.map_nil]); first | done | rfl | (simp only [List.length_drop, List.length_take]; rfl)) ?_; (with_reducible refine (laws_heldRangeS.calls k1 _ _ ((rd_T55 l0 x5_1).f2) (wrap64 ((wrap64 (x1_1 + 1)) + 1)) t181 _ ?side1 ?side2 A7.out).mono ?_); (case side1 => repeat (first | exact HR180_2.out | (with_reducible refine Kd.C_alloc ?_ _) | (with_reducible refine Kd.C_drewN ?_ _) | (with_reducible refine Kd.C_drew ?_))); (case side2 => exact HC180_2.out); rintro e w' ⟨rfl, ⟨nd, rfl⟩⟩; refine ⟨_, rfl, ?_⟩; have p182 : 0 ≤ (x5_1 : Int) := of_decide_eq_true (by first | (with_reducible assumption) | assumption); have q182 : x5_1 < (l0.length : Int) := of_decide_eq_true (by first | (with_reducible assumption) | assumption); obtain ⟨ad182, A182_2, c182_2, e182, hx182_0, hx182_1, hx182_2, hx182_3, hx182_4, hx182_5, hx182_6, hl182_2, hi182_2⟩ := at_T55 HR0.out x5_1 p182 q182; obtain rfl : ad178 = ad182 := (by injection e182); have HR182_2 := Aside0.mk hi182_2; have HC182_2 := Aside0.mk hl182_2; clear hi182_2 hl182_2; replace p182 := eq_true p182; replace q182 := eq_true q182; have ea_ := Option.some.inj (hx178_2.symm.trans hx182_2); injection ea_ with ea_ en_ ec_; subst ea_; subst ec_; clear en_))
         go_ret
         exact ⟨by first | rfl | (simp; done) | (simp [*]; done), by repeat (first | exact Drawn0.refl _ | apply Drawn0.step)⟩
     ·rw [if_neg c5] at H
      have c5b0 : (((rd_T55 l0 x5_1).f0) == x1_1) = false := beq_eq_false_iff_ne.mpr c5
      have c5b1 : (((rd_T55 l0 x5_1).f0) != x1_1) = true := bne_iff_ne.mpr c5
      obtain rfl := Option.some.inj H
      have p178 : 0 ≤ (x5_1 : Int) := of_decide_eq_true (by first | (with_reducible assumption) | assumption)
      have q178 : x5_1 < (l0.length : Int) := of_decide_eq_true (by first | (with_reducible assumption) | assumption)
      obtain ⟨ad178, A178_2, c178_2, e178, hx178_0, hx178_1, hx178_2, hx178_3, hx178_4, hx178_5, hx178_6, hl178_2, hi178_2⟩ := at_T55 HR0.out x5_1 p178 q178
      cases e178
      have HR178_2 := Aside0.mk hi178_2
      have HC178_2 := Aside0.mk hl178_2
      clear hi178_2 hl178_2
      replace p178 := eq_true p178
      replace q178 := eq_true q178
      go_wp2
      go_ret
      exact ⟨by first | rfl | (simp; done) | (simp [*]; done), by repeat (first | exact Drawn0.refl _ | apply Drawn0.step)⟩
    ·rw [if_neg c4] at H
     exact absurd H (by simp)
   ·rw [if_neg c3] at H
    have c3b0 : decide (x5_1 < (l0.length : Int)) = false := decide_eq_false c3
    clear c3
    obtain rfl := Option.some.inj H
    go_wp2
    go_ret
    exact ⟨by first | rfl | (simp; done) | (simp [*]; done), by repeat (first | exact Drawn0.refl _ | apply Drawn0.step)⟩

/-! ### laws_FnExactLiteral: function 7 -/
def laws_FnExactLiteral.F (k : Nat) (a0 : ByteArray) : Prop := (a0.size : Int) > 1048576 ∨ ∃ (L : List S55) (b : Bool) (m : Int) (L' : List S55), spec_Literal.f k a0 = some (L, b) ∧ impl_Literal.f k a0 = some (L, b) ∧ laws_eqRNodeS.f k L L = some true ∧ laws_markRNodeS.f k L 1 = some (m, L') ∧ laws_heldRNodeS.f k L' 1 = some m ∧ 0 ≤ m
set_option maxHeartbeats 8000000 in
set_option maxRecDepth 100000 in
theorem laws_FnExactLiteral.calls (k : Nat) (a0 : ByteArray) (w : World) (hgl : GL w) (h : laws_FnExactLiteral.F k a0) :
    Calls Tryd.prog 7 #[.string a0] w fun e w' => e = .returned (.bool true) ∧ Below w.heap.size w w' := by
  have hu55 := Tryd.underlying55
  have HGL := Aside0.mk hgl
  clear hgl
  have HB := Aside0.mk (Below.refl w.heap.size w)
  rcases h with c2 | ⟨L, b, m, L', hs, hi, he, hm, hh, h0⟩
  · have c2b0 : decide (1048576 < (a0.size : Int)) = true := decide_eq_true c2
    have c2b1 : decide (1048576 < a0.size) = true := decide_eq_true (by omega)
    clear c2
    go_enter Tryd.func7, Tryd.ntmps7
    go_wp2
    go_ret
    exact ⟨by first | rfl | (simp [*] <;> rfl), (by repeat (first | (with_reducible first | exact HB.out | apply below_alloc | apply pw_below_drewN | apply below_drew1) | exact HB.out))⟩
  · by_cases c2 : (a0.size : Int) > 1048576
    · have c2b0 : decide (1048576 < (a0.size : Int)) = true := decide_eq_true c2
      have c2b1 : decide (1048576 < a0.size) = true := decide_eq_true (by omega)
      clear c2
      go_enter Tryd.func7, Tryd.ntmps7
      go_wp2
      go_ret
      exact ⟨by first | rfl | (simp [*] <;> rfl), (by repeat (first | (with_reducible first | exact HB.out | apply below_alloc | apply pw_below_drewN | apply below_drew1) | exact HB.out))⟩
    · have c2b0 : decide (1048576 < (a0.size : Int)) = false := decide_eq_false c2
      have c2b1 : decide (1048576 < a0.size) = false := decide_eq_false (by omega)
      have cb : (b != b) = false := by simp
      have cm : (m != m) = false := by simp
      have c17b0 : decide (m < 0) = false := decide_eq_false (by omega)
      have ES := Aside0.mk hs
      have EI := Aside0.mk hi
      have EE := Aside0.mk he
      have EM := Aside0.mk hm
      have EH := Aside0.mk hh
      clear c2 hs hi he hm hh h0
      go_enter Tryd.func7, Tryd.ntmps7
      go_wp2_with (first | ((with_reducible refine gate_callee (f := 22) rfl ?_); refine goesL_ (some 16) rfl rfl Tryd.func22 (by kernel_rfl) rfl #[.string a0] rfl (by (try simp only [List.map_toArray, List.map_cons, List.map_nil]); first | done | (rw [show L'.length = L.length from (Kd.S_reads' H2.out).1.symm] <;> rfl) | rfl | (simp only [List.length_drop, List.length_take]; rfl)) ?_; (with_reducible refine (spec_Literal.calls k a0 L b _ ES.out).mono ?_); rintro e w1 ⟨v1, rfl, ho0, hb⟩; refine ⟨_, rfl, ?_⟩; obtain ⟨A1, c1, rfl⟩ := Kd.S_slice ho0; obtain ⟨n1, hn1⟩ : ∃ n, n = w1.heap.size := ⟨_, rfl⟩; have HN := Aside0.mk hn1; have n1_ : Aside0 (Kd.S k55 55 w1 w.heap.size (fun k_ => k_ < n1) (.slice A1 L.length c1) L) := ⟨Kd.S_mono (Kd.S_bound (Kd.S_lower ho0 (below_size (by repeat (first | (with_reducible first | exact HB.out | apply below_alloc | apply pw_below_drewN | apply below_drew1) | exact HB.out))))) (fun k_ hk => by rw [hn1]; exact hk.2.2.1)⟩; have nb_ := Aside0.mk (below_step (by repeat (first | (with_reducible first | exact HB.out | apply below_alloc | apply pw_below_drewN | apply below_drew1) | exact HB.out)) hb); clear hb ho0 hn1; clear  HB; have H1 := n1_; have HB := nb_; clear n1_ nb_) | ((with_reducible refine gate_callee (f := 23) rfl ?_); refine goesL_ (some 21) rfl rfl Tryd.func23 (by kernel_rfl) rfl #[.string a0] rfl (by (try simp only [List.map_toArray, List.map_cons, List.map_nil]); first | done | (rw [show L'.length = L.length from (Kd.S_reads' H2.out).1.symm] <;> rfl) | rfl | (simp only [List.length_drop, List.length_take]; rfl)) ?_; (with_reducible refine (impl_Literal.calls k a0 L b _ ?side1 EI.out).mono ?_); (case side1 => exact GL.below HGL.out (by repeat (first | (with_reducible first | exact HB.out | apply below_alloc | apply pw_below_drewN | apply below_drew1) | exact HB.out))); rintro e w2 ⟨v2, rfl, ho0, hb⟩; refine ⟨_, rfl, ?_⟩; obtain ⟨A2, c2, rfl⟩ := Kd.S_slice ho0; have n1_ : Aside0 (Kd.S k55 55 w2 w.heap.size (fun k_ => k_ < n1) (.slice A1 L.length c1) L) := ⟨Kd.S_below (by (with_reducible repeat (first | apply Kd.S_alloc | apply Kd.S_drewN | apply Kd.S_drew)); exact H1.out) hb⟩; have n2_ : Aside0 (Kd.S k55 55 w2 w.heap.size (fun k_ => n1 ≤ k_) (.slice A2 L.length c2) L) := ⟨Kd.S_lower (Kd.S_mono (Kd.S_bound ho0) (fun k_ hk => Nat.le_trans (by rw [HN.out]; exact Nat.le_refl _) hk.2.1)) (below_size (by repeat (first | (with_reducible first | exact HB.out | apply below_alloc | apply pw_below_drewN | apply below_drew1) | exact HB.out)))⟩; have nb_ := Aside0.mk (below_step (by repeat (first | (with_reducible first | exact HB.out | apply below_alloc | apply pw_below_drewN | apply below_drew1) | exact HB.out)) hb); clear hb ho0; clear H1 HB; have H1 := n1_; have H2 := n2_; have HB := nb_; clear n1_ n2_ nb_) | ((with_reducible refine gate_callee (f := 24) rfl ?_); refine goesL_ (some 26) rfl rfl Tryd.func24 (by kernel_rfl) rfl #[.slice A2 L.length c2, .slice A1 L.length c1] rfl (by (try simp only [List.map_toArray, List.map_cons, List.map_nil]); first | done | (rw [show L'.length = L.length from (Kd.S_reads' H2.out).1.symm] <;> rfl) | rfl | (simp only [List.length_drop, List.length_take]; rfl)) ?_; (with_reducible refine (laws_eqRNodeS.calls k _ _ L _ _ L true _ ?side1 ?side2 ?side3 ?side4 EE.out).mono ?_); (case side1 => repeat (first | exact (Kd.S_reads' H2.out).2.2 | (with_reducible refine Kd.C_alloc ?_ _) | (with_reducible refine Kd.C_drewN ?_ _) | (with_reducible refine Kd.C_drew ?_))); (case side2 => exact (Kd.S_reads' H2.out).2.1); (case side3 => repeat (first | exact (Kd.S_reads' H1.out).2.2 | (with_reducible refine Kd.C_alloc ?_ _) | (with_reducible refine Kd.C_drewN ?_ _) | (with_reducible refine Kd.C_drew ?_))); (case side4 => exact (Kd.S_reads' H1.out).2.1); rintro e w5 ⟨rfl, hb⟩; refine ⟨_, rfl, ?_⟩; have n1_ := Aside0.mk (Kd.S_below (by (with_reducible repeat (first | apply Kd.S_alloc | apply Kd.S_drewN | apply Kd.S_drew)); exact H1.out) hb); have n2_ := Aside0.mk (Kd.S_below (by (with_reducible repeat (first | apply Kd.S_alloc | apply Kd.S_drewN | apply Kd.S_drew)); exact H2.out) hb); have nb_ := Aside0.mk (below_step (by repeat (first | (with_reducible first | exact HB.out | apply below_alloc | apply pw_below_drewN | apply below_drew1) | exact HB.out)) hb); clear hb; clear H1 H2 HB; have H1 := n1_; have H2 := n2_; have HB := nb_; clear n1_ n2_ nb_) | ((with_reducible refine gate_callee (f := 25) rfl ?_); refine goesL_ (some 35) rfl rfl Tryd.func25 (by kernel_rfl) rfl #[.slice A2 L.length c2, .int .i64 1] rfl (by (try simp only [List.map_toArray, List.map_cons, List.map_nil]); first | done | (rw [show L'.length = L.length from (Kd.S_reads' H2.out).1.symm] <;> rfl) | rfl | (simp only [List.length_drop, List.length_take]; rfl)) ?_; (with_reducible refine (laws_markRNodeS.calls k (fun k_ => n1 ≤ k_) (.slice A2 L.length c2) L 1 m L' w _ ?side1 ?side2 EM.out).mono ?_); (case side1 => exact (by repeat (first | (with_reducible first | exact HB.out | apply below_alloc | apply pw_below_drewN | apply below_drew1) | exact HB.out))); (case side2 => exact (by (with_reducible repeat (first | apply Kd.S_alloc | apply Kd.S_drewN | apply Kd.S_drew)); exact H2.out)); rintro e w3 ⟨rfl, hy0, hb, hkp⟩; refine ⟨_, rfl, ?_⟩; have n1_ : Aside0 (Kd.S k55 55 w3 w.heap.size (fun k_ => k_ < n1) (.slice A1 L.length c1) L) := ⟨Kd.S_kept (by (with_reducible repeat (first | apply Kd.S_alloc | apply Kd.S_drewN | apply Kd.S_drew)); exact H1.out) hkp (fun k_ hk hs_ => absurd hs_ (Nat.not_le.2 hk))⟩; have n2_ : Aside0 (Kd.S k55 55 w3 w.heap.size (fun _ => True) (.slice A2 L.length c2) L') := ⟨Kd.S_mono hy0 (fun _ _ => trivial)⟩; have nb_ := Aside0.mk hb; clear hb hkp hy0; clear H1 H2 HB; have H1 := n1_; have H2 := n2_; have HB := nb_; clear n1_ n2_ nb_) | ((with_reducible refine gate_callee (f := 26) rfl ?_); refine goesL_ (some 38) rfl rfl Tryd.func26 (by kernel_rfl) rfl #[.slice A2 L'.length c2, .int .i64 1] rfl (by (try simp only [List.map_toArray, List.map_cons, List.map_nil]); first | done | (rw [show L'.length = L.length from (Kd.S_reads' H2.out).1.symm] <;> rfl) | rfl | (simp only [List.length_drop, List.length_take]; rfl)) ?_; (with_reducible refine (laws_heldRNodeS.calls k _ _ L' 1 m _ ?side1 ?side2 EH.out).mono ?_); (case side1 => repeat (first | exact (Kd.S_reads' H2.out).2.2 | (with_reducible refine Kd.C_alloc ?_ _) | (with_reducible refine Kd.C_drewN ?_ _) | (with_reducible refine Kd.C_drew ?_))); (case side2 => rw [show L'.length = L.length from (Kd.S_reads' H2.out).1.symm]; exact (Kd.S_reads' H2.out).2.1); rintro e w' ⟨rfl, ⟨nd, rfl⟩⟩; refine ⟨_, rfl, ?_⟩) | ((with_reducible refine gate_callee (f := 23) rfl ?_); refine goesL_ (some 46) rfl rfl Tryd.func23 (by kernel_rfl) rfl #[.string a0] rfl (by (try simp only [List.map_toArray, List.map_cons, List.map_nil]); first | done | (rw [show L'.length = L.length from (Kd.S_reads' H2.out).1.symm] <;> rfl) | rfl | (simp only [List.length_drop, List.length_take]; rfl)) ?_; (with_reducible refine (impl_Literal.calls k a0 L b _ ?side1 EI.out).mono ?_); (case side1 => exact GL.below HGL.out (by repeat (first | (with_reducible first | exact HB.out | apply below_alloc | apply pw_below_drewN | apply below_drew1) | exact HB.out))); rintro e w4 ⟨v3, rfl, ho0, hb⟩; refine ⟨_, rfl, ?_⟩; obtain ⟨A3, c3, rfl⟩ := Kd.S_slice ho0; have n1_ : Aside0 (Kd.S k55 55 w4 w.heap.size (fun k_ => k_ < n1) (.slice A1 L.length c1) L) := ⟨Kd.S_below (by (with_reducible repeat (first | apply Kd.S_alloc | apply Kd.S_drewN | apply Kd.S_drew)); exact H1.out) hb⟩; have n2_ : Aside0 (Kd.S k55 55 w4 w.heap.size (fun _ => True) (.slice A2 L.length c2) L') := ⟨Kd.S_below (by (with_reducible repeat (first | apply Kd.S_alloc | apply Kd.S_drewN | apply Kd.S_drew)); exact H2.out) hb⟩; have n3_ : Aside0 (Kd.S k55 55 w4 w.heap.size (fun _ => True) (.slice A3 L.length c3) L) := ⟨Kd.S_lower ho0 (below_size (by repeat (first | (with_reducible first | exact HB.out | apply below_alloc | apply pw_below_drewN | apply below_drew1) | exact HB.out)))⟩; have nb_ := Aside0.mk (below_step (by repeat (first | (with_reducible first | exact HB.out | apply below_alloc | apply pw_below_drewN | apply below_drew1) | exact HB.out)) hb); clear hb ho0; clear H1 H2 HB; have H1 := n1_; have H2 := n2_; have H3 := n3_; have HB := nb_; clear n1_ n2_ n3_ nb_) | ((with_reducible refine gate_callee (f := 24) rfl ?_); refine goesL_ (some 51) rfl rfl Tryd.func24 (by kernel_rfl) rfl #[.slice A3 L.length c3, .slice A1 L.length c1] rfl (by (try simp only [List.map_toArray, List.map_cons, List.map_nil]); first | done | (rw [show L'.length = L.length from (Kd.S_reads' H2.out).1.symm] <;> rfl) | rfl | (simp only [List.length_drop, List.length_take]; rfl)) ?_; (with_reducible refine (laws_eqRNodeS.calls k _ _ L _ _ L true _ ?side1 ?side2 ?side3 ?side4 EE.out).mono ?_); (case side1 => repeat (first | exact (Kd.S_reads' H3.out).2.2 | (with_reducible refine Kd.C_alloc ?_ _) | (with_reducible refine Kd.C_drewN ?_ _) | (with_reducible refine Kd.C_drew ?_))); (case side2 => exact (Kd.S_reads' H3.out).2.1); (case side3 => repeat (first | exact (Kd.S_reads' H1.out).2.2 | (with_reducible refine Kd.C_alloc ?_ _) | (with_reducible refine Kd.C_drewN ?_ _) | (with_reducible refine Kd.C_drew ?_))); (case side4 => exact (Kd.S_reads' H1.out).2.1); rintro e w6 ⟨rfl, hb⟩; refine ⟨_, rfl, ?_⟩; have n1_ := Aside0.mk (Kd.S_below (by (with_reducible repeat (first | apply Kd.S_alloc | apply Kd.S_drewN | apply Kd.S_drew)); exact H1.out) hb); have n2_ := Aside0.mk (Kd.S_below (by (with_reducible repeat (first | apply Kd.S_alloc | apply Kd.S_drewN | apply Kd.S_drew)); exact H2.out) hb); have n3_ := Aside0.mk (Kd.S_below (by (with_reducible repeat (first | apply Kd.S_alloc | apply Kd.S_drewN | apply Kd.S_drew)); exact H3.out) hb); have nb_ := Aside0.mk (below_step (by repeat (first | (with_reducible first | exact HB.out | apply below_alloc | apply pw_below_drewN | apply below_drew1) | exact HB.out)) hb); clear hb; clear H1 H2 H3 HB; have H1 := n1_; have H2 := n2_; have H3 := n3_; have HB := nb_; clear n1_ n2_ n3_ nb_) | ((with_reducible refine gate_callee (f := 26) rfl ?_); refine goesL_ (some 60) rfl rfl Tryd.func26 (by kernel_rfl) rfl #[.slice A2 L'.length c2, .int .i64 1] rfl (by (try simp only [List.map_toArray, List.map_cons, List.map_nil]); first | done | (rw [show L'.length = L.length from (Kd.S_reads' H2.out).1.symm] <;> rfl) | rfl | (simp only [List.length_drop, List.length_take]; rfl)) ?_; (with_reducible refine (laws_heldRNodeS.calls k _ _ L' 1 m _ ?side1 ?side2 EH.out).mono ?_); (case side1 => repeat (first | exact (Kd.S_reads' H2.out).2.2 | (with_reducible refine Kd.C_alloc ?_ _) | (with_reducible refine Kd.C_drewN ?_ _) | (with_reducible refine Kd.C_drew ?_))); (case side2 => rw [show L'.length = L.length from (Kd.S_reads' H2.out).1.symm]; exact (Kd.S_reads' H2.out).2.1); rintro e w' ⟨rfl, ⟨nd, rfl⟩⟩; refine ⟨_, rfl, ?_⟩))
      go_ret
      exact ⟨by first | rfl | (simp [*] <;> rfl), (by repeat (first | (with_reducible first | exact HB.out | apply below_alloc | apply pw_below_drewN | apply below_drew1) | exact HB.out))⟩

end Go.Proofs.YtomfhenoblfckaaDoor.PT
