-- Printed by this session's pdrive.py over the kit's printer.
import Derived.Test.YtaliphegdclkfaaPUx0
import Derived.Test.YtaliphegdclkfaaPUx1
import Derived.Test.YtaliphegdclkfaaPUx2
import Derived.Test.YtaliphegdclkfaaPUx5
import Derived.Test.YtaliphegdclkfaaPUx9
namespace Go.Proofs.Ytaliphegdclkfaa.PU
open Go.RowKit Go.Proofs.YtaliphegdclkfaaW.PrintWords Go.Proofs.YtaliphegdclkfaaW.PrintLast Go.Proofs.YtaliphegdclkfaaW.PrintMore Go.Proofs.YtaliphegdclkfaaW.WordsB
attribute [local go_sem] max2_int min2_int max_two min_two max_three min_three max_four min_four   -- for this text's walks alone
set_option linter.unusedVariables false
set_option linter.unusedSimpArgs false

/-! ### laws_heldInt64S: function 49 -/
def laws_heldInt64S.l0 : Nat → List Int → Int → Int → Option (Int)
 | 0, _, _, _ => none
 | k + 1, x0, x1, x5 => if x5 < (x0.length : Int) then (if 0 ≤ x5 then (if (rd x0 x5) = x1 then (laws_heldInt64S.l0 k x0 (wrap64 (x1 + 1)) (wrap64 (x5 + 1))) else (some (-1))) else (none)) else (some x1)
def laws_heldInt64S.f (k : Nat) (l0 : List Int) (a1 : Int) : Option (Int) := laws_heldInt64S.l0 k l0 a1 0
theorem laws_heldInt64S.mono_l : ∀ k, (∀ y0 y1 y2, LeO (laws_heldInt64S.l0 k y0 y1 y2) (laws_heldInt64S.l0 (k + 1) y0 y1 y2))
 | 0 => fun _ _ _ r h => by simp [laws_heldInt64S.l0] at h
 | k + 1 => by
  have ih0 := laws_heldInt64S.mono_l k
  ·intro y0 y1 y2
   unfold laws_heldInt64S.l0
   repeat' first
   | (with_reducible exact ih0 _ _ _)
   | (with_reducible exact LeO.refl _)
   | (with_reducible exact LeO.none _)
   | (with_reducible refine LeO.ite ?_ ?_)
   | (with_reducible refine LeO.bind ?_ (fun _ => ?_))
   | exact ih0 _ _ _
   | exact LeO.none _
   | refine LeO.ite ?_ ?_
   | refine LeO.bind ?_ (fun _ => ?_)
theorem laws_heldInt64S.mono : ∀ a0 a1 k, LeO (laws_heldInt64S.f k a0 a1) (laws_heldInt64S.f (k + 1) a0 a1) := by
 intro a0 a1 k
 have ih0 := laws_heldInt64S.mono_l k
 unfold laws_heldInt64S.f
 repeat' first
   | (with_reducible exact ih0 _ _ _)
   | (with_reducible exact LeO.refl _)
   | (with_reducible exact LeO.none _)
   | (with_reducible refine LeO.ite ?_ ?_)
   | (with_reducible refine LeO.bind ?_ (fun _ => ?_))
   | exact ih0 _ _ _
   | exact LeO.none _
   | refine LeO.ite ?_ ?_
   | refine LeO.bind ?_ (fun _ => ?_)
set_option maxHeartbeats 8000000 in
set_option maxRecDepth 100000 in
theorem laws_heldInt64S.calls (k : Nat) (A0 : Option Addr) (c0 : Nat) (l0 : List Int) (a1 : Int) (r : Int) (w : World) (hr0 : Kd.C (Kd.int .i64) w A0 l0.length l0) (hc0 : l0.length ≤ c0) (h : laws_heldInt64S.f k l0 a1 = some r) :
  Calls Try.prog 49 #[.slice A0 l0.length c0, .int .i64 a1] w fun e w' => e = .returned (.int .i64 r) ∧ Drawn0 w w' := by
 have HR0 := Aside0.mk hr0
 have HC0 := Aside0.mk hc0
 clear hr0 hc0
 have H : (laws_heldInt64S.l0 k l0 a1 0) = some r := h
 clear h
 have H' := Aside0.mk H
 clear H
 go_enter Try.func49, Try.ntmps49
 go_wp2
 go_loopg [1, 5] k (fun kq v1 v5 w' => ∃ (x1_1 : Int) (x5_1 : Int), v1 = .int .i64 x1_1 ∧ v5 = .int .i64 x5_1 ∧ Aside0 (laws_heldInt64S.l0 kq l0 x1_1 x5_1 = some r) ∧ Aside0 (kq ≤ k) ∧ Drawn0 w w')
 case atStart => exact ⟨(a1), (0), (by first | rfl | (simp; done) | (simp [*]; done)), (by first | rfl | (simp; done) | (simp [*]; done)), H', ⟨Nat.le_refl _⟩, by repeat (first | exact Drawn0.refl _ | apply Drawn0.step)⟩
 case round =>
  clear H'
  try clear p2
  obtain ⟨x1_1, x5_1, rfl, rfl, HA, HK1, ⟨m1, rfl⟩⟩ := hrel
  cases gk with
  | zero => exact absurd HA.out (by simp [laws_heldInt64S.l0])
  | succ k1 =>
   have H := HA.out
   clear HA
   simp only [laws_heldInt64S.l0] at H
   by_cases c3 : x5_1 < (l0.length : Int)
   ·rw [if_pos c3] at H
    have c3b0 : decide (x5_1 < (l0.length : Int)) = true := decide_eq_true c3
    clear c3
    by_cases c4 : 0 ≤ x5_1
    ·rw [if_pos c4] at H
     have c4b0 : decide (0 ≤ x5_1) = true := decide_eq_true c4
     clear c4
     by_cases c5 : (rd l0 x5_1) = x1_1
     ·rw [if_pos c5] at H
      have c5b0 : ((rd l0 x5_1) == x1_1) = true := beq_iff_eq.mpr c5
      have c5b1 : ((rd l0 x5_1) != x1_1) = false := bne_eq_false_iff_eq.mpr c5
      clear c5
      have H' := Aside0.mk H
      clear H
      have p192 : 0 ≤ (x5_1 : Int) := of_decide_eq_true (by first | (with_reducible assumption) | assumption)
      have q192 : x5_1 < (l0.length : Int) := of_decide_eq_true (by first | (with_reducible assumption) | assumption)
      obtain ⟨ad192, e192, hx192_0⟩ := Kd.at_int HR0.out x5_1 p192 q192
      cases e192
      replace p192 := eq_true p192
      replace q192 := eq_true q192
      go_wp2
      go_roundg k1
      case measure => have := HK1.out; omega
      case rel => exact ⟨(wrap64 (x1_1 + 1)), (wrap64 (x5_1 + 1)), (by first | rfl | (simp; done) | (simp [*]; done)), (by first | rfl | (simp; done) | (simp [*]; done)), H', ⟨by have := HK1.out; omega⟩, by repeat (first | exact Drawn0.refl _ | apply Drawn0.step)⟩
     ·rw [if_neg c5] at H
      have c5b0 : ((rd l0 x5_1) == x1_1) = false := beq_eq_false_iff_ne.mpr c5
      have c5b1 : ((rd l0 x5_1) != x1_1) = true := bne_iff_ne.mpr c5
      obtain rfl := Option.some.inj H
      have p192 : 0 ≤ (x5_1 : Int) := of_decide_eq_true (by first | (with_reducible assumption) | assumption)
      have q192 : x5_1 < (l0.length : Int) := of_decide_eq_true (by first | (with_reducible assumption) | assumption)
      obtain ⟨ad192, e192, hx192_0⟩ := Kd.at_int HR0.out x5_1 p192 q192
      cases e192
      replace p192 := eq_true p192
      replace q192 := eq_true q192
      go_wp2
      go_ret
      exact ⟨by first | rfl | (simp; done) | (simp [*]; done), by repeat (first | exact Drawn0.refl _ | apply Drawn0.step)⟩
    ·rw [if_neg c4] at H
     exact absurd H (by simp)
   ·rw [if_neg c3] at H
    have c3b0 : decide (x5_1 < (l0.length : Int)) = false := decide_eq_false c3
    clear c3
    obtain rfl := Option.some.inj H
    go_wp2
    go_ret
    exact ⟨by first | rfl | (simp; done) | (simp [*]; done), by repeat (first | exact Drawn0.refl _ | apply Drawn0.step)⟩

/-! ### laws_heldPNodeS: function 24 -/
def laws_heldPNodeS.l0 : Nat → List (S44) → Int → Int → Option (Int)
 | 0, _, _, _ => none
 | k + 1, x0, x1, x5 => if x5 < (x0.length : Int) then (if 0 ≤ x5 then (if ((rd_T44 x0 x5).f0) = x1 then ((laws_markText.f k (wrap64 (x1 + 1))).bind fun t195 => (if ((rd_T44 x0 x5).f1).toList = t195.toList then ((laws_heldInt64S.f k ((rd_T44 x0 x5).f2) (wrap64 ((wrap64 (x1 + 1)) + 1))).bind fun t197 => (if t197 < 0 then (some (-1)) else (if ((rd_T44 x0 x5).f3) = t197 then (laws_heldPNodeS.l0 k x0 (wrap64 (t197 + 1)) (wrap64 (x5 + 1))) else (some (-1))))) else (some (-1)))) else (some (-1))) else (none)) else (some x1)
def laws_heldPNodeS.f (k : Nat) (l0 : List (S44)) (a1 : Int) : Option (Int) := laws_heldPNodeS.l0 k l0 a1 0
theorem laws_heldPNodeS.mono_l : ∀ k, (∀ y0 y1 y2, LeO (laws_heldPNodeS.l0 k y0 y1 y2) (laws_heldPNodeS.l0 (k + 1) y0 y1 y2))
 | 0 => fun _ _ _ r h => by simp [laws_heldPNodeS.l0] at h
 | k + 1 => by
  have ih0 := laws_heldPNodeS.mono_l k
  ·intro y0 y1 y2
   unfold laws_heldPNodeS.l0
   repeat' first
   | (with_reducible exact ih0 _ _ _)
   | (with_reducible exact laws_heldInt64S.mono _ _ _)
   | (with_reducible exact laws_markText.mono _ _)
   | (with_reducible exact LeO.refl _)
   | (with_reducible exact LeO.none _)
   | (with_reducible refine LeO.ite ?_ ?_)
   | (with_reducible refine LeO.bind ?_ (fun _ => ?_))
   | exact ih0 _ _ _
   | exact laws_heldInt64S.mono _ _ _
   | exact laws_markText.mono _ _
   | exact LeO.none _
   | refine LeO.ite ?_ ?_
   | refine LeO.bind ?_ (fun _ => ?_)
theorem laws_heldPNodeS.mono : ∀ a0 a1 k, LeO (laws_heldPNodeS.f k a0 a1) (laws_heldPNodeS.f (k + 1) a0 a1) := by
 intro a0 a1 k
 have ih0 := laws_heldPNodeS.mono_l k
 unfold laws_heldPNodeS.f
 repeat' first
   | (with_reducible exact ih0 _ _ _)
   | (with_reducible exact laws_heldInt64S.mono _ _ _)
   | (with_reducible exact laws_markText.mono _ _)
   | (with_reducible exact LeO.refl _)
   | (with_reducible exact LeO.none _)
   | (with_reducible refine LeO.ite ?_ ?_)
   | (with_reducible refine LeO.bind ?_ (fun _ => ?_))
   | exact ih0 _ _ _
   | exact laws_heldInt64S.mono _ _ _
   | exact laws_markText.mono _ _
   | exact LeO.none _
   | refine LeO.ite ?_ ?_
   | refine LeO.bind ?_ (fun _ => ?_)
def laws_heldPNodeS.T7 : Bool × List (List Nat × List Nat) := (true, [([], []), ([], []), ([0, 1], [0, 1]), ([2], [2]), ([3], [3]), ([], []), ([5], [5]), ([4, 6], [4, 6])])
def laws_heldPNodeS.B7 : List Nat := [0, 0, 3, 7, 15, 0, 32, 127]
theorem laws_heldPNodeS.tab7 : rtab .any (opsOf Try.f24 7) = laws_heldPNodeS.T7 := by kernel_rfl
theorem laws_heldPNodeS.bits7 : waitsOk laws_heldPNodeS.T7.2 laws_heldPNodeS.B7 = true := by kernel_rfl
set_option maxHeartbeats 8000000 in
set_option maxRecDepth 100000 in
theorem laws_heldPNodeS.calls (k : Nat) (A0 : Option Addr) (c0 : Nat) (l0 : List (S44)) (a1 : Int) (r : Int) (w : World) (hr0 : Kd.C k44 w A0 l0.length l0) (hc0 : l0.length ≤ c0) (h : laws_heldPNodeS.f k l0 a1 = some r) :
  Calls Try.prog 24 #[.slice A0 l0.length c0, .int .i64 a1] w fun e w' => e = .returned (.int .i64 r) ∧ Below w.heap.size w w' := by
 have HR0 := Aside0.mk hr0
 have HC0 := Aside0.mk hc0
 clear hr0 hc0
 have HB := Aside0.mk (Below.refl w.heap.size w)
 have H : (laws_heldPNodeS.l0 k l0 a1 0) = some r := h
 clear h
 have H' := Aside0.mk H
 clear H
 go_enter Try.func24, Try.ntmps24
 go_wp2
 go_loopg [1, 5] k (fun kq v1 v5 w' => ∃ (x1_1 : Int) (x5_1 : Int), v1 = .int .i64 x1_1 ∧ v5 = .int .i64 x5_1 ∧ Aside0 (laws_heldPNodeS.l0 kq l0 x1_1 x5_1 = some r) ∧ Aside0 (kq ≤ k) ∧ Aside0 (Below w.heap.size w w'))
 case atStart => exact ⟨(a1), (0), (by first | rfl | (simp; done) | (simp [*]; done)), (by first | rfl | (simp; done) | (simp [*]; done)), H', ⟨Nat.le_refl _⟩, ⟨by repeat (first | (with_reducible first | exact HB.out | apply below_alloc | apply pw_below_drewN | apply below_drew1) | exact HB.out)⟩⟩
 case round =>
  clear H'
  try clear c2
  try clear p2
  obtain ⟨x1_1, x5_1, rfl, rfl, HA, HK1, HB⟩ := hrel
  cases gk with
  | zero => exact absurd HA.out (by simp [laws_heldPNodeS.l0])
  | succ k1 =>
   have H := HA.out
   clear HA
   simp only [laws_heldPNodeS.l0] at H
   by_cases c3 : x5_1 < (l0.length : Int)
   ·rw [if_pos c3] at H
    have c3b0 : decide (x5_1 < (l0.length : Int)) = true := decide_eq_true c3
    clear c3
    by_cases c4 : 0 ≤ x5_1
    ·rw [if_pos c4] at H
     have c4b0 : decide (0 ≤ x5_1) = true := decide_eq_true c4
     clear c4
     by_cases c5 : ((rd_T44 l0 x5_1).f0) = x1_1
     ·rw [if_pos c5] at H
      have c5b0 : (((rd_T44 l0 x5_1).f0) == x1_1) = true := beq_iff_eq.mpr c5
      have c5b1 : (((rd_T44 l0 x5_1).f0) != x1_1) = false := bne_eq_false_iff_eq.mpr c5
      clear c5
      replace H := Option.bind_eq_some_iff.mp H
      obtain ⟨t195, A60, H⟩ := H
      replace H : (if ((rd_T44 l0 x5_1).f1).toList = t195.toList then ((laws_heldInt64S.f k1 ((rd_T44 l0 x5_1).f2) (wrap64 ((wrap64 (x1_1 + 1)) + 1))).bind fun t197 => (if t197 < 0 then (some (-1)) else (if ((rd_T44 l0 x5_1).f3) = t197 then (laws_heldPNodeS.l0 k1 l0 (wrap64 (t197 + 1)) (wrap64 (x5_1 + 1))) else (some (-1))))) else (some (-1))) = some r := H
      have A6 := Aside0.mk A60
      clear A60
      by_cases c7 : ((rd_T44 l0 x5_1).f1).toList = t195.toList
      ·rw [if_pos c7] at H
       have c7b0 : (((rd_T44 l0 x5_1).f1).toList == t195.toList) = true := beq_iff_eq.mpr c7
       have c7b1 : (((rd_T44 l0 x5_1).f1).toList != t195.toList) = false := bne_eq_false_iff_eq.mpr c7
       clear c7
       replace H := Option.bind_eq_some_iff.mp H
       obtain ⟨t197, A80, H⟩ := H
       replace H : (if t197 < 0 then (some (-1)) else (if ((rd_T44 l0 x5_1).f3) = t197 then (laws_heldPNodeS.l0 k1 l0 (wrap64 (t197 + 1)) (wrap64 (x5_1 + 1))) else (some (-1)))) = some r := H
       have A8 := Aside0.mk A80
       clear A80
       by_cases c9 : t197 < 0
       ·rw [if_pos c9] at H
        have c9b0 : decide (t197 < 0) = true := decide_eq_true c9
        clear c9
        obtain rfl := Option.some.inj H
        have p193 : 0 ≤ (x5_1 : Int) := of_decide_eq_true (by first | (with_reducible assumption) | assumption)
        have q193 : x5_1 < (l0.length : Int) := of_decide_eq_true (by first | (with_reducible assumption) | assumption)
        obtain ⟨ad193, A193_2, c193_2, e193, hx193_0, hx193_1, hx193_2, hx193_3, hl193_2, hi193_2⟩ := at_T44 HR0.out x5_1 p193 q193
        have hy193_2 := Aside0.mk hx193_2
        cases e193
        replace hx193_0 := (HB.out.cell (World.block_lt_of_cell? w _ hx193_0)).trans hx193_0
        replace hx193_1 := (HB.out.cell (World.block_lt_of_cell? w _ hx193_1)).trans hx193_1
        replace hx193_2 := (HB.out.cell (World.block_lt_of_cell? w _ hx193_2)).trans hx193_2
        replace hx193_3 := (HB.out.cell (World.block_lt_of_cell? w _ hx193_3)).trans hx193_3
        have HR193_2 := Aside0.mk hi193_2
        have HC193_2 := Aside0.mk hl193_2
        clear hi193_2 hl193_2
        replace p193 := eq_true p193
        replace q193 := eq_true q193
        try go_wp2
        have n0_ := Aside0.mk (below_drew1 HB.out)
        clear HB
        have HB := n0_
        clear n0_
        have p194 : 0 ≤ (x5_1 : Int) := of_decide_eq_true (by first | (with_reducible assumption) | assumption)
        have q194 : x5_1 < (l0.length : Int) := of_decide_eq_true (by first | (with_reducible assumption) | assumption)
        obtain ⟨ad194, A194_2, c194_2, e194, hx194_0, hx194_1, hx194_2, hx194_3, hl194_2, hi194_2⟩ := at_T44 HR0.out x5_1 p194 q194
        have hy194_2 := Aside0.mk hx194_2
        have hw194_3 := hx194_3
        have hw194_2 := hx194_2
        have hw194_1 := hx194_1
        have hw194_0 := hx194_0
        obtain rfl : ad193 = ad194 := (by injection e194)
        replace hx194_0 := (HB.out.cell (World.block_lt_of_cell? w _ hx194_0)).trans hx194_0
        replace hx194_1 := (HB.out.cell (World.block_lt_of_cell? w _ hx194_1)).trans hx194_1
        replace hx194_2 := (HB.out.cell (World.block_lt_of_cell? w _ hx194_2)).trans hx194_2
        replace hx194_3 := (HB.out.cell (World.block_lt_of_cell? w _ hx194_3)).trans hx194_3
        have HR194_2 := Aside0.mk hi194_2
        have HC194_2 := Aside0.mk hl194_2
        clear hi194_2 hl194_2
        (try (have ea_ := Option.some.inj (hy194_2.out.symm.trans hy193_2.out); injection ea_ with ea_ en_ ec_; subst ea_; subst ec_; clear en_))
        replace p194 := eq_true p194
        replace q194 := eq_true q194
        refine start_ (n := 8) (S := fun w' => w'.cell? (ad193.add ((x5_1).toNat * 4)) = some (.int .i64 ((rd_T44 l0 x5_1).f0)) ∧ w'.cell? ⟨(ad193.add ((x5_1).toNat * 4)).block, (ad193.add ((x5_1).toNat * 4)).off + 1, none⟩ = some (.string ((rd_T44 l0 x5_1).f1)) ∧ w'.cell? ⟨(ad193.add ((x5_1).toNat * 4)).block, (ad193.add ((x5_1).toNat * 4)).off + 2, none⟩ = some (.slice A194_2 ((rd_T44 l0 x5_1).f2).length c194_2) ∧ w'.cell? ⟨(ad193.add ((x5_1).toNat * 4)).block, (ad193.add ((x5_1).toNat * 4)).off + 3, none⟩ = some (.int .i64 ((rd_T44 l0 x5_1).f3))) (ds := []) #[false, false, false, false, false, false, false, false] (by kernel_rfl) rfl rfl ⟨((HB.out.cell (World.block_lt_of_cell? w _ hw194_0)).trans hw194_0), ((HB.out.cell (World.block_lt_of_cell? w _ hw194_1)).trans hw194_1), ((HB.out.cell (World.block_lt_of_cell? w _ hw194_2)).trans hw194_2), ((HB.out.cell (World.block_lt_of_cell? w _ hw194_3)).trans hw194_3)⟩ (fun hHeld => ?_); refine with_tabW laws_heldPNodeS.tab7 laws_heldPNodeS.bits7 (fun HT_ HW_ => ?_)
        generalize wr.drew = w10 at HB HR194_2 hx194_0 hx194_1 hx194_2 hx194_3 hHeld ⊢
        refine pure_ (i := 0) (N := some 21) (v := ?_) (a' := ?_) #[true, false, false, false, false, false, false, false] rfl rfl (any_of HT_.out (by kernel_rfl)) (fun _ _ _ h => h) (Or.inl ⟨by rfl, ?_⟩) ?_ ?_
        rotate_left
        ·intro w'
         go_simp
         with_reducible rfl
        rotate_left
        ·simp only [Act.put, List.setIfInBounds_toArray, List.set_cons_zero, List.set_cons_succ, i64_w, i32_w]
         rfl
        refine pure_ (i := 1) (N := some 22) (v := ?_) (a' := ?_) #[true, true, false, false, false, false, false, false] rfl rfl (any_of HT_.out (by kernel_rfl)) (fun _ _ _ h => h) (Or.inl ⟨by rfl, ?_⟩) ?_ ?_
        rotate_left
        ·intro w'
         go_simp
         with_reducible rfl
        rotate_left
        ·simp only [Act.put, List.setIfInBounds_toArray, List.set_cons_zero, List.set_cons_succ, i64_w, i32_w]
         rfl
        refine pure_ (i := 2) (N := some 23) (v := ?_) (a' := ?_) #[true, true, true, false, false, false, false, false] rfl rfl (any_of HT_.out (by kernel_rfl)) (fun _ _ _ h => h) (Or.inl ⟨by rfl, ?_⟩) ?_ ?_
        rotate_left
        ·intro w'
         go_simp
         with_reducible rfl
        rotate_left
        ·simp only [Act.put, List.setIfInBounds_toArray, List.set_cons_zero, List.set_cons_succ, i64_w, i32_w]
         rfl
        refine pure_ (i := 3) (N := some 24) (v := ?_) (a' := ?_) #[true, true, true, true, false, false, false, false] rfl rfl (any_of HT_.out (by kernel_rfl)) (fun _ _ _ h => h) (Or.inl ⟨by rfl, ?_⟩) ?_ ?_
        rotate_left
        ·intro w'
         go_simp
         with_reducible rfl
        rotate_left
        ·simp only [Act.put, List.setIfInBounds_toArray, List.set_cons_zero, List.set_cons_succ, i64_w, i32_w]
         rfl
        refine pure_ (i := 5) (N := some 26) (v := ?_) (a' := ?_) #[true, true, true, true, false, true, false, false] rfl rfl (any_of HT_.out (by kernel_rfl)) (fun _ _ _ h => h) (Or.inl ⟨by rfl, ?_⟩) ?_ ?_
        rotate_left
        ·intro w'
         go_simp
         with_reducible rfl
        rotate_left
        ·simp only [Act.put, List.setIfInBounds_toArray, List.set_cons_zero, List.set_cons_succ, i64_w, i32_w]
         rfl
        refine take_ (i := 4) (N := some 25) (v := ?_) (a' := ?_) #[true, true, true, true, true, true, false, false] rfl rfl (take_ofW HT_.out HW_.out (by kernel_rfl)) (fun _ _ _ h => h) (Or.inl ⟨by rfl, ?_⟩) hHeld ?_ ?_
        rotate_left
        ·rintro w' ⟨s0, s1, s2, s3⟩
         go_simp
         with_reducible rfl
        rotate_left
        ·simp only [Act.put, List.setIfInBounds_toArray, List.set_cons_zero, List.set_cons_succ, i64_w, i32_w]
         rfl
        refine one_ (i := 6) (N := some 27) #[true, true, true, true, true, true, true, false] rfl rfl (one_of HT_.out (by kernel_rfl)) (by decide) (fun K hK => ?_)
        refine goes_ Try.func45 (by kernel_rfl) rfl #[.int .i64 (wrap64 (x1_1 + 1))] (by rfl) rfl rfl (by (try simp only [List.map_toArray, List.map_cons, List.map_nil]); first | done | rfl | (simp only [List.length_drop, List.length_take]; rfl)) ?_
        with_reducible refine (laws_markText.calls k1 (wrap64 (x1_1 + 1)) t195 _ A6.out).mono ?_
        rintro e w11 ⟨rfl, hb⟩
        refine ⟨_, rfl, ?_⟩
        have n0_ := Aside0.mk (below_step (by repeat (first | (with_reducible first | exact HB.out | apply below_alloc | apply pw_below_drewN | apply below_drew1) | exact HB.out)) hb)
        clear HB
        have HB := n0_
        clear n0_
        (try clear hb)
        (try clear hb2)
        (try clear hk)
        (try clear hi)
        refine hK.out _ _ ⟨((HB.out.cell (World.block_lt_of_cell? w _ hw194_0)).trans hw194_0), ((HB.out.cell (World.block_lt_of_cell? w _ hw194_1)).trans hw194_1), ((HB.out.cell (World.block_lt_of_cell? w _ hw194_2)).trans hw194_2), ((HB.out.cell (World.block_lt_of_cell? w _ hw194_3)).trans hw194_3)⟩ (fun hHeld => ?_)
        clear hK K
        refine norm_ (a' := ?_) ?_ ?_
        rotate_left
        ·show Act.put _ (some 27) _ = _
         simp only [Act.put, List.setIfInBounds_toArray, List.set_cons_zero, List.set_cons_succ, i64_w, i32_w]
         rfl
        refine pure_ (i := 7) (N := some 28) (v := ?_) (a' := ?_) #[true, true, true, true, true, true, true, true] rfl rfl (any_of HT_.out (by kernel_rfl)) (fun _ _ _ h => h) (Or.inl ⟨by rfl, ?_⟩) ?_ ?_
        rotate_left
        ·intro w'
         go_simp
         with_reducible rfl
        rotate_left
        ·simp only [Act.put, List.setIfInBounds_toArray, List.set_cons_zero, List.set_cons_succ, i64_w, i32_w]
         rfl
        refine done_ (done_of HT_.out (by kernel_rfl)) ?_
        have p196 : 0 ≤ (x5_1 : Int) := of_decide_eq_true (by first | (with_reducible assumption) | assumption)
        have q196 : x5_1 < (l0.length : Int) := of_decide_eq_true (by first | (with_reducible assumption) | assumption)
        obtain ⟨ad196, A196_2, c196_2, e196, hx196_0, hx196_1, hx196_2, hx196_3, hl196_2, hi196_2⟩ := at_T44 HR0.out x5_1 p196 q196
        have hy196_2 := Aside0.mk hx196_2
        obtain rfl : ad193 = ad196 := (by injection e196)
        replace hx196_0 := (HB.out.cell (World.block_lt_of_cell? w _ hx196_0)).trans hx196_0
        replace hx196_1 := (HB.out.cell (World.block_lt_of_cell? w _ hx196_1)).trans hx196_1
        replace hx196_2 := (HB.out.cell (World.block_lt_of_cell? w _ hx196_2)).trans hx196_2
        replace hx196_3 := (HB.out.cell (World.block_lt_of_cell? w _ hx196_3)).trans hx196_3
        have HR196_2 := Aside0.mk hi196_2
        have HC196_2 := Aside0.mk hl196_2
        clear hi196_2 hl196_2
        (try (have ea_ := Option.some.inj (hy196_2.out.symm.trans hy193_2.out); injection ea_ with ea_ en_ ec_; subst ea_; subst ec_; clear en_))
        (try (have ea_ := Option.some.inj (hy196_2.out.symm.trans hy194_2.out); injection ea_ with ea_ en_ ec_; subst ea_; subst ec_; clear en_))
        replace p196 := eq_true p196
        replace q196 := eq_true q196
        try go_wp2_with (first | ((with_reducible refine gate_callee (f := 49) rfl ?_); refine goesL_ (some 37) rfl rfl Try.func49 (by kernel_rfl) rfl #[.slice A196_2 ((rd_T44 l0 x5_1).f2).length c196_2, .int .i64 (wrap64 ((wrap64 (x1_1 + 1)) + 1))] rfl (by (try simp only [List.map_toArray, List.map_cons, List.map_nil]); first | done | rfl | (simp only [List.length_drop, List.length_take]; rfl)) ?_; (with_reducible refine (laws_heldInt64S.calls k1 _ _ ((rd_T44 l0 x5_1).f2) (wrap64 ((wrap64 (x1_1 + 1)) + 1)) t197 _ ?side1 ?side2 A8.out).mono ?_); (case side1 => repeat (first | exact (Kd.C_below HR196_2.out HB.out) | (with_reducible refine Kd.C_alloc ?_ _) | (with_reducible refine Kd.C_drewN ?_ _) | (with_reducible refine Kd.C_drew ?_))); (case side2 => exact HC196_2.out); rintro e w' ⟨rfl, ⟨nd, rfl⟩⟩; refine ⟨_, rfl, ?_⟩))
        go_ret
        exact ⟨by first | rfl | (simp [*] <;> rfl), by repeat (first | (with_reducible first | exact HB.out | apply below_alloc | apply pw_below_drewN | apply below_drew1) | exact HB.out)⟩
       ·rw [if_neg c9] at H
        have c9b0 : decide (t197 < 0) = false := decide_eq_false c9
        clear c9
        by_cases c12 : ((rd_T44 l0 x5_1).f3) = t197
        ·rw [if_pos c12] at H
         have c12b0 : (((rd_T44 l0 x5_1).f3) == t197) = true := beq_iff_eq.mpr c12
         have c12b1 : (((rd_T44 l0 x5_1).f3) != t197) = false := bne_eq_false_iff_eq.mpr c12
         clear c12
         have H' := Aside0.mk H
         clear H
         have p193 : 0 ≤ (x5_1 : Int) := of_decide_eq_true (by first | (with_reducible assumption) | assumption)
         have q193 : x5_1 < (l0.length : Int) := of_decide_eq_true (by first | (with_reducible assumption) | assumption)
         obtain ⟨ad193, A193_2, c193_2, e193, hx193_0, hx193_1, hx193_2, hx193_3, hl193_2, hi193_2⟩ := at_T44 HR0.out x5_1 p193 q193
         have hy193_2 := Aside0.mk hx193_2
         cases e193
         replace hx193_0 := (HB.out.cell (World.block_lt_of_cell? w _ hx193_0)).trans hx193_0
         replace hx193_1 := (HB.out.cell (World.block_lt_of_cell? w _ hx193_1)).trans hx193_1
         replace hx193_2 := (HB.out.cell (World.block_lt_of_cell? w _ hx193_2)).trans hx193_2
         replace hx193_3 := (HB.out.cell (World.block_lt_of_cell? w _ hx193_3)).trans hx193_3
         have HR193_2 := Aside0.mk hi193_2
         have HC193_2 := Aside0.mk hl193_2
         clear hi193_2 hl193_2
         replace p193 := eq_true p193
         replace q193 := eq_true q193
         try go_wp2
         have n0_ := Aside0.mk (below_drew1 HB.out)
         clear HB
         have HB := n0_
         clear n0_
         have p194 : 0 ≤ (x5_1 : Int) := of_decide_eq_true (by first | (with_reducible assumption) | assumption)
         have q194 : x5_1 < (l0.length : Int) := of_decide_eq_true (by first | (with_reducible assumption) | assumption)
         obtain ⟨ad194, A194_2, c194_2, e194, hx194_0, hx194_1, hx194_2, hx194_3, hl194_2, hi194_2⟩ := at_T44 HR0.out x5_1 p194 q194
         have hy194_2 := Aside0.mk hx194_2
         have hw194_3 := hx194_3
         have hw194_2 := hx194_2
         have hw194_1 := hx194_1
         have hw194_0 := hx194_0
         obtain rfl : ad193 = ad194 := (by injection e194)
         replace hx194_0 := (HB.out.cell (World.block_lt_of_cell? w _ hx194_0)).trans hx194_0
         replace hx194_1 := (HB.out.cell (World.block_lt_of_cell? w _ hx194_1)).trans hx194_1
         replace hx194_2 := (HB.out.cell (World.block_lt_of_cell? w _ hx194_2)).trans hx194_2
         replace hx194_3 := (HB.out.cell (World.block_lt_of_cell? w _ hx194_3)).trans hx194_3
         have HR194_2 := Aside0.mk hi194_2
         have HC194_2 := Aside0.mk hl194_2
         clear hi194_2 hl194_2
         (try (have ea_ := Option.some.inj (hy194_2.out.symm.trans hy193_2.out); injection ea_ with ea_ en_ ec_; subst ea_; subst ec_; clear en_))
         (try (have ea_ := Option.some.inj (hy194_2.out.symm.trans hy196_2.out); injection ea_ with ea_ en_ ec_; subst ea_; subst ec_; clear en_))
         replace p194 := eq_true p194
         replace q194 := eq_true q194
         refine start_ (n := 8) (S := fun w' => w'.cell? (ad193.add ((x5_1).toNat * 4)) = some (.int .i64 ((rd_T44 l0 x5_1).f0)) ∧ w'.cell? ⟨(ad193.add ((x5_1).toNat * 4)).block, (ad193.add ((x5_1).toNat * 4)).off + 1, none⟩ = some (.string ((rd_T44 l0 x5_1).f1)) ∧ w'.cell? ⟨(ad193.add ((x5_1).toNat * 4)).block, (ad193.add ((x5_1).toNat * 4)).off + 2, none⟩ = some (.slice A194_2 ((rd_T44 l0 x5_1).f2).length c194_2) ∧ w'.cell? ⟨(ad193.add ((x5_1).toNat * 4)).block, (ad193.add ((x5_1).toNat * 4)).off + 3, none⟩ = some (.int .i64 ((rd_T44 l0 x5_1).f3))) (ds := []) #[false, false, false, false, false, false, false, false] (by kernel_rfl) rfl rfl ⟨((HB.out.cell (World.block_lt_of_cell? w _ hw194_0)).trans hw194_0), ((HB.out.cell (World.block_lt_of_cell? w _ hw194_1)).trans hw194_1), ((HB.out.cell (World.block_lt_of_cell? w _ hw194_2)).trans hw194_2), ((HB.out.cell (World.block_lt_of_cell? w _ hw194_3)).trans hw194_3)⟩ (fun hHeld => ?_); refine with_tabW laws_heldPNodeS.tab7 laws_heldPNodeS.bits7 (fun HT_ HW_ => ?_)
         generalize wr.drew = w13 at HB HR194_2 hx194_0 hx194_1 hx194_2 hx194_3 hHeld ⊢
         refine pure_ (i := 0) (N := some 21) (v := ?_) (a' := ?_) #[true, false, false, false, false, false, false, false] rfl rfl (any_of HT_.out (by kernel_rfl)) (fun _ _ _ h => h) (Or.inl ⟨by rfl, ?_⟩) ?_ ?_
         rotate_left
         ·intro w'
          go_simp
          with_reducible rfl
         rotate_left
         ·simp only [Act.put, List.setIfInBounds_toArray, List.set_cons_zero, List.set_cons_succ, i64_w, i32_w]
          rfl
         refine pure_ (i := 1) (N := some 22) (v := ?_) (a' := ?_) #[true, true, false, false, false, false, false, false] rfl rfl (any_of HT_.out (by kernel_rfl)) (fun _ _ _ h => h) (Or.inl ⟨by rfl, ?_⟩) ?_ ?_
         rotate_left
         ·intro w'
          go_simp
          with_reducible rfl
         rotate_left
         ·simp only [Act.put, List.setIfInBounds_toArray, List.set_cons_zero, List.set_cons_succ, i64_w, i32_w]
          rfl
         refine pure_ (i := 2) (N := some 23) (v := ?_) (a' := ?_) #[true, true, true, false, false, false, false, false] rfl rfl (any_of HT_.out (by kernel_rfl)) (fun _ _ _ h => h) (Or.inl ⟨by rfl, ?_⟩) ?_ ?_
         rotate_left
         ·intro w'
          go_simp
          with_reducible rfl
         rotate_left
         ·simp only [Act.put, List.setIfInBounds_toArray, List.set_cons_zero, List.set_cons_succ, i64_w, i32_w]
          rfl
         refine pure_ (i := 3) (N := some 24) (v := ?_) (a' := ?_) #[true, true, true, true, false, false, false, false] rfl rfl (any_of HT_.out (by kernel_rfl)) (fun _ _ _ h => h) (Or.inl ⟨by rfl, ?_⟩) ?_ ?_
         rotate_left
         ·intro w'
          go_simp
          with_reducible rfl
         rotate_left
         ·simp only [Act.put, List.setIfInBounds_toArray, List.set_cons_zero, List.set_cons_succ, i64_w, i32_w]
          rfl
         refine pure_ (i := 5) (N := some 26) (v := ?_) (a' := ?_) #[true, true, true, true, false, true, false, false] rfl rfl (any_of HT_.out (by kernel_rfl)) (fun _ _ _ h => h) (Or.inl ⟨by rfl, ?_⟩) ?_ ?_
         rotate_left
         ·intro w'
          go_simp
          with_reducible rfl
         rotate_left
         ·simp only [Act.put, List.setIfInBounds_toArray, List.set_cons_zero, List.set_cons_succ, i64_w, i32_w]
          rfl
         refine take_ (i := 4) (N := some 25) (v := ?_) (a' := ?_) #[true, true, true, true, true, true, false, false] rfl rfl (take_ofW HT_.out HW_.out (by kernel_rfl)) (fun _ _ _ h => h) (Or.inl ⟨by rfl, ?_⟩) hHeld ?_ ?_
         rotate_left
         ·rintro w' ⟨s0, s1, s2, s3⟩
          go_simp
          with_reducible rfl
         rotate_left
         ·simp only [Act.put, List.setIfInBounds_toArray, List.set_cons_zero, List.set_cons_succ, i64_w, i32_w]
          rfl
         refine one_ (i := 6) (N := some 27) #[true, true, true, true, true, true, true, false] rfl rfl (one_of HT_.out (by kernel_rfl)) (by decide) (fun K hK => ?_)
         refine goes_ Try.func45 (by kernel_rfl) rfl #[.int .i64 (wrap64 (x1_1 + 1))] (by rfl) rfl rfl (by (try simp only [List.map_toArray, List.map_cons, List.map_nil]); first | done | rfl | (simp only [List.length_drop, List.length_take]; rfl)) ?_
         with_reducible refine (laws_markText.calls k1 (wrap64 (x1_1 + 1)) t195 _ A6.out).mono ?_
         rintro e w14 ⟨rfl, hb⟩
         refine ⟨_, rfl, ?_⟩
         have n0_ := Aside0.mk (below_step (by repeat (first | (with_reducible first | exact HB.out | apply below_alloc | apply pw_below_drewN | apply below_drew1) | exact HB.out)) hb)
         clear HB
         have HB := n0_
         clear n0_
         (try clear hb)
         (try clear hb2)
         (try clear hk)
         (try clear hi)
         refine hK.out _ _ ⟨((HB.out.cell (World.block_lt_of_cell? w _ hw194_0)).trans hw194_0), ((HB.out.cell (World.block_lt_of_cell? w _ hw194_1)).trans hw194_1), ((HB.out.cell (World.block_lt_of_cell? w _ hw194_2)).trans hw194_2), ((HB.out.cell (World.block_lt_of_cell? w _ hw194_3)).trans hw194_3)⟩ (fun hHeld => ?_)
         clear hK K
         refine norm_ (a' := ?_) ?_ ?_
         rotate_left
         ·show Act.put _ (some 27) _ = _
          simp only [Act.put, List.setIfInBounds_toArray, List.set_cons_zero, List.set_cons_succ, i64_w, i32_w]
          rfl
         refine pure_ (i := 7) (N := some 28) (v := ?_) (a' := ?_) #[true, true, true, true, true, true, true, true] rfl rfl (any_of HT_.out (by kernel_rfl)) (fun _ _ _ h => h) (Or.inl ⟨by rfl, ?_⟩) ?_ ?_
         rotate_left
         ·intro w'
          go_simp
          with_reducible rfl
         rotate_left
         ·simp only [Act.put, List.setIfInBounds_toArray, List.set_cons_zero, List.set_cons_succ, i64_w, i32_w]
          rfl
         refine done_ (done_of HT_.out (by kernel_rfl)) ?_
         have p196 : 0 ≤ (x5_1 : Int) := of_decide_eq_true (by first | (with_reducible assumption) | assumption)
         have q196 : x5_1 < (l0.length : Int) := of_decide_eq_true (by first | (with_reducible assumption) | assumption)
         obtain ⟨ad196, A196_2, c196_2, e196, hx196_0, hx196_1, hx196_2, hx196_3, hl196_2, hi196_2⟩ := at_T44 HR0.out x5_1 p196 q196
         have hy196_2 := Aside0.mk hx196_2
         obtain rfl : ad193 = ad196 := (by injection e196)
         replace hx196_0 := (HB.out.cell (World.block_lt_of_cell? w _ hx196_0)).trans hx196_0
         replace hx196_1 := (HB.out.cell (World.block_lt_of_cell? w _ hx196_1)).trans hx196_1
         replace hx196_2 := (HB.out.cell (World.block_lt_of_cell? w _ hx196_2)).trans hx196_2
         replace hx196_3 := (HB.out.cell (World.block_lt_of_cell? w _ hx196_3)).trans hx196_3
         have HR196_2 := Aside0.mk hi196_2
         have HC196_2 := Aside0.mk hl196_2
         clear hi196_2 hl196_2
         (try (have ea_ := Option.some.inj (hy196_2.out.symm.trans hy193_2.out); injection ea_ with ea_ en_ ec_; subst ea_; subst ec_; clear en_))
         (try (have ea_ := Option.some.inj (hy196_2.out.symm.trans hy194_2.out); injection ea_ with ea_ en_ ec_; subst ea_; subst ec_; clear en_))
         replace p196 := eq_true p196
         replace q196 := eq_true q196
         try go_wp2_with (first | ((with_reducible refine gate_callee (f := 49) rfl ?_); refine goesL_ (some 37) rfl rfl Try.func49 (by kernel_rfl) rfl #[.slice A196_2 ((rd_T44 l0 x5_1).f2).length c196_2, .int .i64 (wrap64 ((wrap64 (x1_1 + 1)) + 1))] rfl (by (try simp only [List.map_toArray, List.map_cons, List.map_nil]); first | done | rfl | (simp only [List.length_drop, List.length_take]; rfl)) ?_; (with_reducible refine (laws_heldInt64S.calls k1 _ _ ((rd_T44 l0 x5_1).f2) (wrap64 ((wrap64 (x1_1 + 1)) + 1)) t197 _ ?side1 ?side2 A8.out).mono ?_); (case side1 => repeat (first | exact (Kd.C_below HR196_2.out HB.out) | (with_reducible refine Kd.C_alloc ?_ _) | (with_reducible refine Kd.C_drewN ?_ _) | (with_reducible refine Kd.C_drew ?_))); (case side2 => exact HC196_2.out); rintro e w' ⟨rfl, ⟨nd, rfl⟩⟩; refine ⟨_, rfl, ?_⟩; have p198 : 0 ≤ (x5_1 : Int) := of_decide_eq_true (by first | (with_reducible assumption) | assumption); have q198 : x5_1 < (l0.length : Int) := of_decide_eq_true (by first | (with_reducible assumption) | assumption); obtain ⟨ad198, A198_2, c198_2, e198, hx198_0, hx198_1, hx198_2, hx198_3, hl198_2, hi198_2⟩ := at_T44 HR0.out x5_1 p198 q198; have hy198_2 := Aside0.mk hx198_2; obtain rfl : ad193 = ad198 := (by injection e198); replace hx198_0 := (HB.out.cell (World.block_lt_of_cell? w _ hx198_0)).trans hx198_0; replace hx198_1 := (HB.out.cell (World.block_lt_of_cell? w _ hx198_1)).trans hx198_1; replace hx198_2 := (HB.out.cell (World.block_lt_of_cell? w _ hx198_2)).trans hx198_2; replace hx198_3 := (HB.out.cell (World.block_lt_of_cell? w _ hx198_3)).trans hx198_3; have HR198_2 := Aside0.mk hi198_2; have HC198_2 := Aside0.mk hl198_2; clear hi198_2 hl198_2; (try (have ea_ := Option.some.inj (hy198_2.out.symm.trans hy193_2.out); injection ea_ with ea_ en_ ec_; subst ea_; subst ec_; clear en_)); (try (have ea_ := Option.some.inj (hy198_2.out.symm.trans hy194_2.out); injection ea_ with ea_ en_ ec_; subst ea_; subst ec_; clear en_)); (try (have ea_ := Option.some.inj (hy198_2.out.symm.trans hy196_2.out); injection ea_ with ea_ en_ ec_; subst ea_; subst ec_; clear en_)); replace p198 := eq_true p198; replace q198 := eq_true q198; (try (have ea_ := Option.some.inj (hx196_2.symm.trans hx198_2); injection ea_ with ea_ en_ ec_; subst ea_; subst ec_; clear en_))))
         go_roundg k1
         case measure => have := HK1.out; omega
         case rel => exact ⟨(wrap64 (t197 + 1)), (wrap64 (x5_1 + 1)), (by first | rfl | (simp; done) | (simp [*]; done)), (by first | rfl | (simp; done) | (simp [*]; done)), H', ⟨by have := HK1.out; omega⟩, ⟨by repeat (first | (with_reducible first | exact HB.out | apply below_alloc | apply pw_below_drewN | apply below_drew1) | exact HB.out)⟩⟩
        ·rw [if_neg c12] at H
         have c12b0 : (((rd_T44 l0 x5_1).f3) == t197) = false := beq_eq_false_iff_ne.mpr c12
         have c12b1 : (((rd_T44 l0 x5_1).f3) != t197) = true := bne_iff_ne.mpr c12
         obtain rfl := Option.some.inj H
         have p193 : 0 ≤ (x5_1 : Int) := of_decide_eq_true (by first | (with_reducible assumption) | assumption)
         have q193 : x5_1 < (l0.length : Int) := of_decide_eq_true (by first | (with_reducible assumption) | assumption)
         obtain ⟨ad193, A193_2, c193_2, e193, hx193_0, hx193_1, hx193_2, hx193_3, hl193_2, hi193_2⟩ := at_T44 HR0.out x5_1 p193 q193
         have hy193_2 := Aside0.mk hx193_2
         cases e193
         replace hx193_0 := (HB.out.cell (World.block_lt_of_cell? w _ hx193_0)).trans hx193_0
         replace hx193_1 := (HB.out.cell (World.block_lt_of_cell? w _ hx193_1)).trans hx193_1
         replace hx193_2 := (HB.out.cell (World.block_lt_of_cell? w _ hx193_2)).trans hx193_2
         replace hx193_3 := (HB.out.cell (World.block_lt_of_cell? w _ hx193_3)).trans hx193_3
         have HR193_2 := Aside0.mk hi193_2
         have HC193_2 := Aside0.mk hl193_2
         clear hi193_2 hl193_2
         replace p193 := eq_true p193
         replace q193 := eq_true q193
         try go_wp2
         have n0_ := Aside0.mk (below_drew1 HB.out)
         clear HB
         have HB := n0_
         clear n0_
         have p194 : 0 ≤ (x5_1 : Int) := of_decide_eq_true (by first | (with_reducible assumption) | assumption)
         have q194 : x5_1 < (l0.length : Int) := of_decide_eq_true (by first | (with_reducible assumption) | assumption)
         obtain ⟨ad194, A194_2, c194_2, e194, hx194_0, hx194_1, hx194_2, hx194_3, hl194_2, hi194_2⟩ := at_T44 HR0.out x5_1 p194 q194
         have hy194_2 := Aside0.mk hx194_2
         have hw194_3 := hx194_3
         have hw194_2 := hx194_2
         have hw194_1 := hx194_1
         have hw194_0 := hx194_0
         obtain rfl : ad193 = ad194 := (by injection e194)
         replace hx194_0 := (HB.out.cell (World.block_lt_of_cell? w _ hx194_0)).trans hx194_0
         replace hx194_1 := (HB.out.cell (World.block_lt_of_cell? w _ hx194_1)).trans hx194_1
         replace hx194_2 := (HB.out.cell (World.block_lt_of_cell? w _ hx194_2)).trans hx194_2
         replace hx194_3 := (HB.out.cell (World.block_lt_of_cell? w _ hx194_3)).trans hx194_3
         have HR194_2 := Aside0.mk hi194_2
         have HC194_2 := Aside0.mk hl194_2
         clear hi194_2 hl194_2
         (try (have ea_ := Option.some.inj (hy194_2.out.symm.trans hy193_2.out); injection ea_ with ea_ en_ ec_; subst ea_; subst ec_; clear en_))
         (try (have ea_ := Option.some.inj (hy194_2.out.symm.trans hy196_2.out); injection ea_ with ea_ en_ ec_; subst ea_; subst ec_; clear en_))
         (try (have ea_ := Option.some.inj (hy194_2.out.symm.trans hy198_2.out); injection ea_ with ea_ en_ ec_; subst ea_; subst ec_; clear en_))
         replace p194 := eq_true p194
         replace q194 := eq_true q194
         refine start_ (n := 8) (S := fun w' => w'.cell? (ad193.add ((x5_1).toNat * 4)) = some (.int .i64 ((rd_T44 l0 x5_1).f0)) ∧ w'.cell? ⟨(ad193.add ((x5_1).toNat * 4)).block, (ad193.add ((x5_1).toNat * 4)).off + 1, none⟩ = some (.string ((rd_T44 l0 x5_1).f1)) ∧ w'.cell? ⟨(ad193.add ((x5_1).toNat * 4)).block, (ad193.add ((x5_1).toNat * 4)).off + 2, none⟩ = some (.slice A194_2 ((rd_T44 l0 x5_1).f2).length c194_2) ∧ w'.cell? ⟨(ad193.add ((x5_1).toNat * 4)).block, (ad193.add ((x5_1).toNat * 4)).off + 3, none⟩ = some (.int .i64 ((rd_T44 l0 x5_1).f3))) (ds := []) #[false, false, false, false, false, false, false, false] (by kernel_rfl) rfl rfl ⟨((HB.out.cell (World.block_lt_of_cell? w _ hw194_0)).trans hw194_0), ((HB.out.cell (World.block_lt_of_cell? w _ hw194_1)).trans hw194_1), ((HB.out.cell (World.block_lt_of_cell? w _ hw194_2)).trans hw194_2), ((HB.out.cell (World.block_lt_of_cell? w _ hw194_3)).trans hw194_3)⟩ (fun hHeld => ?_); refine with_tabW laws_heldPNodeS.tab7 laws_heldPNodeS.bits7 (fun HT_ HW_ => ?_)
         generalize wr.drew = w15 at HB HR194_2 hx194_0 hx194_1 hx194_2 hx194_3 hHeld ⊢
         refine pure_ (i := 0) (N := some 21) (v := ?_) (a' := ?_) #[true, false, false, false, false, false, false, false] rfl rfl (any_of HT_.out (by kernel_rfl)) (fun _ _ _ h => h) (Or.inl ⟨by rfl, ?_⟩) ?_ ?_
         rotate_left
         ·intro w'
          go_simp
          with_reducible rfl
         rotate_left
         ·simp only [Act.put, List.setIfInBounds_toArray, List.set_cons_zero, List.set_cons_succ, i64_w, i32_w]
          rfl
         refine pure_ (i := 1) (N := some 22) (v := ?_) (a' := ?_) #[true, true, false, false, false, false, false, false] rfl rfl (any_of HT_.out (by kernel_rfl)) (fun _ _ _ h => h) (Or.inl ⟨by rfl, ?_⟩) ?_ ?_
         rotate_left
         ·intro w'
          go_simp
          with_reducible rfl
         rotate_left
         ·simp only [Act.put, List.setIfInBounds_toArray, List.set_cons_zero, List.set_cons_succ, i64_w, i32_w]
          rfl
         refine pure_ (i := 2) (N := some 23) (v := ?_) (a' := ?_) #[true, true, true, false, false, false, false, false] rfl rfl (any_of HT_.out (by kernel_rfl)) (fun _ _ _ h => h) (Or.inl ⟨by rfl, ?_⟩) ?_ ?_
         rotate_left
         ·intro w'
          go_simp
          with_reducible rfl
         rotate_left
         ·simp only [Act.put, List.setIfInBounds_toArray, List.set_cons_zero, List.set_cons_succ, i64_w, i32_w]
          rfl
         refine pure_ (i := 3) (N := some 24) (v := ?_) (a' := ?_) #[true, true, true, true, false, false, false, false] rfl rfl (any_of HT_.out (by kernel_rfl)) (fun _ _ _ h => h) (Or.inl ⟨by rfl, ?_⟩) ?_ ?_
         rotate_left
         ·intro w'
          go_simp
          with_reducible rfl
         rotate_left
         ·simp only [Act.put, List.setIfInBounds_toArray, List.set_cons_zero, List.set_cons_succ, i64_w, i32_w]
          rfl
         refine pure_ (i := 5) (N := some 26) (v := ?_) (a' := ?_) #[true, true, true, true, false, true, false, false] rfl rfl (any_of HT_.out (by kernel_rfl)) (fun _ _ _ h => h) (Or.inl ⟨by rfl, ?_⟩) ?_ ?_
         rotate_left
         ·intro w'
          go_simp
          with_reducible rfl
         rotate_left
         ·simp only [Act.put, List.setIfInBounds_toArray, List.set_cons_zero, List.set_cons_succ, i64_w, i32_w]
          rfl
         refine take_ (i := 4) (N := some 25) (v := ?_) (a' := ?_) #[true, true, true, true, true, true, false, false] rfl rfl (take_ofW HT_.out HW_.out (by kernel_rfl)) (fun _ _ _ h => h) (Or.inl ⟨by rfl, ?_⟩) hHeld ?_ ?_
         rotate_left
         ·rintro w' ⟨s0, s1, s2, s3⟩
          go_simp
          with_reducible rfl
         rotate_left
         ·simp only [Act.put, List.setIfInBounds_toArray, List.set_cons_zero, List.set_cons_succ, i64_w, i32_w]
          rfl
         refine one_ (i := 6) (N := some 27) #[true, true, true, true, true, true, true, false] rfl rfl (one_of HT_.out (by kernel_rfl)) (by decide) (fun K hK => ?_)
         refine goes_ Try.func45 (by kernel_rfl) rfl #[.int .i64 (wrap64 (x1_1 + 1))] (by rfl) rfl rfl (by (try simp only [List.map_toArray, List.map_cons, List.map_nil]); first | done | rfl | (simp only [List.length_drop, List.length_take]; rfl)) ?_
         with_reducible refine (laws_markText.calls k1 (wrap64 (x1_1 + 1)) t195 _ A6.out).mono ?_
         rintro e w16 ⟨rfl, hb⟩
         refine ⟨_, rfl, ?_⟩
         have n0_ := Aside0.mk (below_step (by repeat (first | (with_reducible first | exact HB.out | apply below_alloc | apply pw_below_drewN | apply below_drew1) | exact HB.out)) hb)
         clear HB
         have HB := n0_
         clear n0_
         (try clear hb)
         (try clear hb2)
         (try clear hk)
         (try clear hi)
         refine hK.out _ _ ⟨((HB.out.cell (World.block_lt_of_cell? w _ hw194_0)).trans hw194_0), ((HB.out.cell (World.block_lt_of_cell? w _ hw194_1)).trans hw194_1), ((HB.out.cell (World.block_lt_of_cell? w _ hw194_2)).trans hw194_2), ((HB.out.cell (World.block_lt_of_cell? w _ hw194_3)).trans hw194_3)⟩ (fun hHeld => ?_)
         clear hK K
         refine norm_ (a' := ?_) ?_ ?_
         rotate_left
         ·show Act.put _ (some 27) _ = _
          simp only [Act.put, List.setIfInBounds_toArray, List.set_cons_zero, List.set_cons_succ, i64_w, i32_w]
          rfl
         refine pure_ (i := 7) (N := some 28) (v := ?_) (a' := ?_) #[true, true, true, true, true, true, true, true] rfl rfl (any_of HT_.out (by kernel_rfl)) (fun _ _ _ h => h) (Or.inl ⟨by rfl, ?_⟩) ?_ ?_
         rotate_left
         ·intro w'
          go_simp
          with_reducible rfl
         rotate_left
         ·simp only [Act.put, List.setIfInBounds_toArray, List.set_cons_zero, List.set_cons_succ, i64_w, i32_w]
          rfl
         refine done_ (done_of HT_.out (by kernel_rfl)) ?_
         have p196 : 0 ≤ (x5_1 : Int) := of_decide_eq_true (by first | (with_reducible assumption) | assumption)
         have q196 : x5_1 < (l0.length : Int) := of_decide_eq_true (by first | (with_reducible assumption) | assumption)
         obtain ⟨ad196, A196_2, c196_2, e196, hx196_0, hx196_1, hx196_2, hx196_3, hl196_2, hi196_2⟩ := at_T44 HR0.out x5_1 p196 q196
         have hy196_2 := Aside0.mk hx196_2
         obtain rfl : ad193 = ad196 := (by injection e196)
         replace hx196_0 := (HB.out.cell (World.block_lt_of_cell? w _ hx196_0)).trans hx196_0
         replace hx196_1 := (HB.out.cell (World.block_lt_of_cell? w _ hx196_1)).trans hx196_1
         replace hx196_2 := (HB.out.cell (World.block_lt_of_cell? w _ hx196_2)).trans hx196_2
         replace hx196_3 := (HB.out.cell (World.block_lt_of_cell? w _ hx196_3)).trans hx196_3
         have HR196_2 := Aside0.mk hi196_2
         have HC196_2 := Aside0.mk hl196_2
         clear hi196_2 hl196_2
         (try (have ea_ := Option.some.inj (hy196_2.out.symm.trans hy193_2.out); injection ea_ with ea_ en_ ec_; subst ea_; subst ec_; clear en_))
         (try (have ea_ := Option.some.inj (hy196_2.out.symm.trans hy194_2.out); injection ea_ with ea_ en_ ec_; subst ea_; subst ec_; clear en_))
         (try (have ea_ := Option.some.inj (hy196_2.out.symm.trans hy198_2.out); injection ea_ with ea_ en_ ec_; subst ea_; subst ec_; clear en_))
         replace p196 := eq_true p196
         replace q196 := eq_true q196
         try go_wp2_with (first | ((with_reducible refine gate_callee (f := 49) rfl ?_); refine goesL_ (some 37) rfl rfl Try.func49 (by kernel_rfl) rfl #[.slice A196_2 ((rd_T44 l0 x5_1).f2).length c196_2, .int .i64 (wrap64 ((wrap64 (x1_1 + 1)) + 1))] rfl (by (try simp only [List.map_toArray, List.map_cons, List.map_nil]); first | done | rfl | (simp only [List.length_drop, List.length_take]; rfl)) ?_; (with_reducible refine (laws_heldInt64S.calls k1 _ _ ((rd_T44 l0 x5_1).f2) (wrap64 ((wrap64 (x1_1 + 1)) + 1)) t197 _ ?side1 ?side2 A8.out).mono ?_); (case side1 => repeat (first | exact (Kd.C_below HR196_2.out HB.out) | (with_reducible refine Kd.C_alloc ?_ _) | (with_reducible refine Kd.C_drewN ?_ _) | (with_reducible refine Kd.C_drew ?_))); (case side2 => exact HC196_2.out); rintro e w' ⟨rfl, ⟨nd, rfl⟩⟩; refine ⟨_, rfl, ?_⟩; have p198 : 0 ≤ (x5_1 : Int) := of_decide_eq_true (by first | (with_reducible assumption) | assumption); have q198 : x5_1 < (l0.length : Int) := of_decide_eq_true (by first | (with_reducible assumption) | assumption); obtain ⟨ad198, A198_2, c198_2, e198, hx198_0, hx198_1, hx198_2, hx198_3, hl198_2, hi198_2⟩ := at_T44 HR0.out x5_1 p198 q198; have hy198_2 := Aside0.mk hx198_2; obtain rfl : ad193 = ad198 := (by injection e198); replace hx198_0 := (HB.out.cell (World.block_lt_of_cell? w _ hx198_0)).trans hx198_0; replace hx198_1 := (HB.out.cell (World.block_lt_of_cell? w _ hx198_1)).trans hx198_1; replace hx198_2 := (HB.out.cell (World.block_lt_of_cell? w _ hx198_2)).trans hx198_2; replace hx198_3 := (HB.out.cell (World.block_lt_of_cell? w _ hx198_3)).trans hx198_3; have HR198_2 := Aside0.mk hi198_2; have HC198_2 := Aside0.mk hl198_2; clear hi198_2 hl198_2; (try (have ea_ := Option.some.inj (hy198_2.out.symm.trans hy193_2.out); injection ea_ with ea_ en_ ec_; subst ea_; subst ec_; clear en_)); (try (have ea_ := Option.some.inj (hy198_2.out.symm.trans hy194_2.out); injection ea_ with ea_ en_ ec_; subst ea_; subst ec_; clear en_)); (try (have ea_ := Option.some.inj (hy198_2.out.symm.trans hy196_2.out); injection ea_ with ea_ en_ ec_; subst ea_; subst ec_; clear en_)); replace p198 := eq_true p198; replace q198 := eq_true q198; (try (have ea_ := Option.some.inj (hx196_2.symm.trans hx198_2); injection ea_ with ea_ en_ ec_; subst ea_; subst ec_; clear en_))))
         go_ret
         exact ⟨by first | rfl | (simp [*] <;> rfl), by repeat (first | (with_reducible first | exact HB.out | apply below_alloc | apply pw_below_drewN | apply below_drew1) | exact HB.out)⟩
      ·rw [if_neg c7] at H
       have c7b0 : (((rd_T44 l0 x5_1).f1).toList == t195.toList) = false := beq_eq_false_iff_ne.mpr c7
       have c7b1 : (((rd_T44 l0 x5_1).f1).toList != t195.toList) = true := bne_iff_ne.mpr c7
       obtain rfl := Option.some.inj H
       have p193 : 0 ≤ (x5_1 : Int) := of_decide_eq_true (by first | (with_reducible assumption) | assumption)
       have q193 : x5_1 < (l0.length : Int) := of_decide_eq_true (by first | (with_reducible assumption) | assumption)
       obtain ⟨ad193, A193_2, c193_2, e193, hx193_0, hx193_1, hx193_2, hx193_3, hl193_2, hi193_2⟩ := at_T44 HR0.out x5_1 p193 q193
       have hy193_2 := Aside0.mk hx193_2
       cases e193
       replace hx193_0 := (HB.out.cell (World.block_lt_of_cell? w _ hx193_0)).trans hx193_0
       replace hx193_1 := (HB.out.cell (World.block_lt_of_cell? w _ hx193_1)).trans hx193_1
       replace hx193_2 := (HB.out.cell (World.block_lt_of_cell? w _ hx193_2)).trans hx193_2
       replace hx193_3 := (HB.out.cell (World.block_lt_of_cell? w _ hx193_3)).trans hx193_3
       have HR193_2 := Aside0.mk hi193_2
       have HC193_2 := Aside0.mk hl193_2
       clear hi193_2 hl193_2
       replace p193 := eq_true p193
       replace q193 := eq_true q193
       try go_wp2
       have n0_ := Aside0.mk (below_drew1 HB.out)
       clear HB
       have HB := n0_
       clear n0_
       have p194 : 0 ≤ (x5_1 : Int) := of_decide_eq_true (by first | (with_reducible assumption) | assumption)
       have q194 : x5_1 < (l0.length : Int) := of_decide_eq_true (by first | (with_reducible assumption) | assumption)
       obtain ⟨ad194, A194_2, c194_2, e194, hx194_0, hx194_1, hx194_2, hx194_3, hl194_2, hi194_2⟩ := at_T44 HR0.out x5_1 p194 q194
       have hy194_2 := Aside0.mk hx194_2
       have hw194_3 := hx194_3
       have hw194_2 := hx194_2
       have hw194_1 := hx194_1
       have hw194_0 := hx194_0
       obtain rfl : ad193 = ad194 := (by injection e194)
       replace hx194_0 := (HB.out.cell (World.block_lt_of_cell? w _ hx194_0)).trans hx194_0
       replace hx194_1 := (HB.out.cell (World.block_lt_of_cell? w _ hx194_1)).trans hx194_1
       replace hx194_2 := (HB.out.cell (World.block_lt_of_cell? w _ hx194_2)).trans hx194_2
       replace hx194_3 := (HB.out.cell (World.block_lt_of_cell? w _ hx194_3)).trans hx194_3
       have HR194_2 := Aside0.mk hi194_2
       have HC194_2 := Aside0.mk hl194_2
       clear hi194_2 hl194_2
       (try (have ea_ := Option.some.inj (hy194_2.out.symm.trans hy193_2.out); injection ea_ with ea_ en_ ec_; subst ea_; subst ec_; clear en_))
       (try (have ea_ := Option.some.inj (hy194_2.out.symm.trans hy196_2.out); injection ea_ with ea_ en_ ec_; subst ea_; subst ec_; clear en_))
       (try (have ea_ := Option.some.inj (hy194_2.out.symm.trans hy198_2.out); injection ea_ with ea_ en_ ec_; subst ea_; subst ec_; clear en_))
       replace p194 := eq_true p194
       replace q194 := eq_true q194
       refine start_ (n := 8) (S := fun w' => w'.cell? (ad193.add ((x5_1).toNat * 4)) = some (.int .i64 ((rd_T44 l0 x5_1).f0)) ∧ w'.cell? ⟨(ad193.add ((x5_1).toNat * 4)).block, (ad193.add ((x5_1).toNat * 4)).off + 1, none⟩ = some (.string ((rd_T44 l0 x5_1).f1)) ∧ w'.cell? ⟨(ad193.add ((x5_1).toNat * 4)).block, (ad193.add ((x5_1).toNat * 4)).off + 2, none⟩ = some (.slice A194_2 ((rd_T44 l0 x5_1).f2).length c194_2) ∧ w'.cell? ⟨(ad193.add ((x5_1).toNat * 4)).block, (ad193.add ((x5_1).toNat * 4)).off + 3, none⟩ = some (.int .i64 ((rd_T44 l0 x5_1).f3))) (ds := []) #[false, false, false, false, false, false, false, false] (by kernel_rfl) rfl rfl ⟨((HB.out.cell (World.block_lt_of_cell? w _ hw194_0)).trans hw194_0), ((HB.out.cell (World.block_lt_of_cell? w _ hw194_1)).trans hw194_1), ((HB.out.cell (World.block_lt_of_cell? w _ hw194_2)).trans hw194_2), ((HB.out.cell (World.block_lt_of_cell? w _ hw194_3)).trans hw194_3)⟩ (fun hHeld => ?_); refine with_tabW laws_heldPNodeS.tab7 laws_heldPNodeS.bits7 (fun HT_ HW_ => ?_)
       generalize wr.drew = w17 at HB HR194_2 hx194_0 hx194_1 hx194_2 hx194_3 hHeld ⊢
       refine pure_ (i := 0) (N := some 21) (v := ?_) (a' := ?_) #[true, false, false, false, false, false, false, false] rfl rfl (any_of HT_.out (by kernel_rfl)) (fun _ _ _ h => h) (Or.inl ⟨by rfl, ?_⟩) ?_ ?_
       rotate_left
       ·intro w'
        go_simp
        with_reducible rfl
       rotate_left
       ·simp only [Act.put, List.setIfInBounds_toArray, List.set_cons_zero, List.set_cons_succ, i64_w, i32_w]
        rfl
       refine pure_ (i := 1) (N := some 22) (v := ?_) (a' := ?_) #[true, true, false, false, false, false, false, false] rfl rfl (any_of HT_.out (by kernel_rfl)) (fun _ _ _ h => h) (Or.inl ⟨by rfl, ?_⟩) ?_ ?_
       rotate_left
       ·intro w'
        go_simp
        with_reducible rfl
       rotate_left
       ·simp only [Act.put, List.setIfInBounds_toArray, List.set_cons_zero, List.set_cons_succ, i64_w, i32_w]
        rfl
       refine pure_ (i := 2) (N := some 23) (v := ?_) (a' := ?_) #[true, true, true, false, false, false, false, false] rfl rfl (any_of HT_.out (by kernel_rfl)) (fun _ _ _ h => h) (Or.inl ⟨by rfl, ?_⟩) ?_ ?_
       rotate_left
       ·intro w'
        go_simp
        with_reducible rfl
       rotate_left
       ·simp only [Act.put, List.setIfInBounds_toArray, List.set_cons_zero, List.set_cons_succ, i64_w, i32_w]
        rfl
       refine pure_ (i := 3) (N := some 24) (v := ?_) (a' := ?_) #[true, true, true, true, false, false, false, false] rfl rfl (any_of HT_.out (by kernel_rfl)) (fun _ _ _ h => h) (Or.inl ⟨by rfl, ?_⟩) ?_ ?_
       rotate_left
       ·intro w'
        go_simp
        with_reducible rfl
       rotate_left
       ·simp only [Act.put, List.setIfInBounds_toArray, List.set_cons_zero, List.set_cons_succ, i64_w, i32_w]
        rfl
       refine pure_ (i := 5) (N := some 26) (v := ?_) (a' := ?_) #[true, true, true, true, false, true, false, false] rfl rfl (any_of HT_.out (by kernel_rfl)) (fun _ _ _ h => h) (Or.inl ⟨by rfl, ?_⟩) ?_ ?_
       rotate_left
       ·intro w'
        go_simp
        with_reducible rfl
       rotate_left
       ·simp only [Act.put, List.setIfInBounds_toArray, List.set_cons_zero, List.set_cons_succ, i64_w, i32_w]
        rfl
       refine take_ (i := 4) (N := some 25) (v := ?_) (a' := ?_) #[true, true, true, true, true, true, false, false] rfl rfl (take_ofW HT_.out HW_.out (by kernel_rfl)) (fun _ _ _ h => h) (Or.inl ⟨by rfl, ?_⟩) hHeld ?_ ?_
       rotate_left
       ·rintro w' ⟨s0, s1, s2, s3⟩
        go_simp
        with_reducible rfl
       rotate_left
       ·simp only [Act.put, List.setIfInBounds_toArray, List.set_cons_zero, List.set_cons_succ, i64_w, i32_w]
        rfl
       refine one_ (i := 6) (N := some 27) #[true, true, true, true, true, true, true, false] rfl rfl (one_of HT_.out (by kernel_rfl)) (by decide) (fun K hK => ?_)
       refine goes_ Try.func45 (by kernel_rfl) rfl #[.int .i64 (wrap64 (x1_1 + 1))] (by rfl) rfl rfl (by (try simp only [List.map_toArray, List.map_cons, List.map_nil]); first | done | rfl | (simp only [List.length_drop, List.length_take]; rfl)) ?_
       with_reducible refine (laws_markText.calls k1 (wrap64 (x1_1 + 1)) t195 _ A6.out).mono ?_
       rintro e w18 ⟨rfl, hb⟩
       refine ⟨_, rfl, ?_⟩
       have n0_ := Aside0.mk (below_step (by repeat (first | (with_reducible first | exact HB.out | apply below_alloc | apply pw_below_drewN | apply below_drew1) | exact HB.out)) hb)
       clear HB
       have HB := n0_
       clear n0_
       (try clear hb)
       (try clear hb2)
       (try clear hk)
       (try clear hi)
       refine hK.out _ _ ⟨((HB.out.cell (World.block_lt_of_cell? w _ hw194_0)).trans hw194_0), ((HB.out.cell (World.block_lt_of_cell? w _ hw194_1)).trans hw194_1), ((HB.out.cell (World.block_lt_of_cell? w _ hw194_2)).trans hw194_2), ((HB.out.cell (World.block_lt_of_cell? w _ hw194_3)).trans hw194_3)⟩ (fun hHeld => ?_)
       clear hK K
       refine norm_ (a' := ?_) ?_ ?_
       rotate_left
       ·show Act.put _ (some 27) _ = _
        simp only [Act.put, List.setIfInBounds_toArray, List.set_cons_zero, List.set_cons_succ, i64_w, i32_w]
        rfl
       refine pure_ (i := 7) (N := some 28) (v := ?_) (a' := ?_) #[true, true, true, true, true, true, true, true] rfl rfl (any_of HT_.out (by kernel_rfl)) (fun _ _ _ h => h) (Or.inl ⟨by rfl, ?_⟩) ?_ ?_
       rotate_left
       ·intro w'
        go_simp
        with_reducible rfl
       rotate_left
       ·simp only [Act.put, List.setIfInBounds_toArray, List.set_cons_zero, List.set_cons_succ, i64_w, i32_w]
        rfl
       refine done_ (done_of HT_.out (by kernel_rfl)) ?_
       try go_wp2
       go_ret
       exact ⟨by first | rfl | (simp [*] <;> rfl), by repeat (first | (with_reducible first | exact HB.out | apply below_alloc | apply pw_below_drewN | apply below_drew1) | exact HB.out)⟩
     ·rw [if_neg c5] at H
      have c5b0 : (((rd_T44 l0 x5_1).f0) == x1_1) = false := beq_eq_false_iff_ne.mpr c5
      have c5b1 : (((rd_T44 l0 x5_1).f0) != x1_1) = true := bne_iff_ne.mpr c5
      obtain rfl := Option.some.inj H
      have p193 : 0 ≤ (x5_1 : Int) := of_decide_eq_true (by first | (with_reducible assumption) | assumption)
      have q193 : x5_1 < (l0.length : Int) := of_decide_eq_true (by first | (with_reducible assumption) | assumption)
      obtain ⟨ad193, A193_2, c193_2, e193, hx193_0, hx193_1, hx193_2, hx193_3, hl193_2, hi193_2⟩ := at_T44 HR0.out x5_1 p193 q193
      have hy193_2 := Aside0.mk hx193_2
      cases e193
      replace hx193_0 := (HB.out.cell (World.block_lt_of_cell? w _ hx193_0)).trans hx193_0
      replace hx193_1 := (HB.out.cell (World.block_lt_of_cell? w _ hx193_1)).trans hx193_1
      replace hx193_2 := (HB.out.cell (World.block_lt_of_cell? w _ hx193_2)).trans hx193_2
      replace hx193_3 := (HB.out.cell (World.block_lt_of_cell? w _ hx193_3)).trans hx193_3
      have HR193_2 := Aside0.mk hi193_2
      have HC193_2 := Aside0.mk hl193_2
      clear hi193_2 hl193_2
      replace p193 := eq_true p193
      replace q193 := eq_true q193
      go_wp2
      go_ret
      exact ⟨by first | rfl | (simp [*] <;> rfl), by repeat (first | (with_reducible first | exact HB.out | apply below_alloc | apply pw_below_drewN | apply below_drew1) | exact HB.out)⟩
    ·rw [if_neg c4] at H
     exact absurd H (by simp)
   ·rw [if_neg c3] at H
    have c3b0 : decide (x5_1 < (l0.length : Int)) = false := decide_eq_false c3
    clear c3
    obtain rfl := Option.some.inj H
    go_wp2
    go_ret
    exact ⟨by first | rfl | (simp [*] <;> rfl), by repeat (first | (with_reducible first | exact HB.out | apply below_alloc | apply pw_below_drewN | apply below_drew1) | exact HB.out)⟩

/-! ### laws_FnExactTurned: function 6 -/
def WF43 (x : S43) : Prop := (Lit.int .i64 x.f0).wf = true ∧ x.f1.size ≤ 140737488351232 ∧ x.f2.length * 8 ≤ 140737488351232 ∧ (∀ y_ ∈ x.f2, (Lit.int .i64 y_).wf = true) ∧ (Lit.int .i64 x.f3).wf = true
def laws_FnExactTurned.F (k : Nat) (l0 : List S43) : Prop := ∃ t, laws_szPNodeS.f k l0 1048576 = some t ∧ (t < 0 ∨ (0 ≤ t ∧ ∃ (X : List S44) (L : List S44) (b : Bool) (m1 : Int) (X' : List S44) (m : Int) (L' : List S44), laws_toPNodeS.f k l0 = some X ∧ spec_Turned.f k X = some (L, b) ∧ impl_Turned.f k X = some (L, b) ∧ laws_eqPNodeS.f k L L = some true ∧ laws_eqPNodeS.f k X X = some true ∧ laws_markPNodeS.f k X 1 = some (m1, X') ∧ 0 ≤ m1 ∧ laws_markPNodeS.f k L 1 = some (m, L') ∧ laws_heldPNodeS.f k L' 1 = some m ∧ 0 ≤ m))
theorem turned_le {n : Nat} {W : World} (h : n = W.heap.size) : n ≤ W.heap.size := Nat.le_of_eq h
set_option maxHeartbeats 16000000 in
set_option maxRecDepth 100000 in
theorem laws_FnExactTurned.calls (k : Nat) (A0 : Option Addr) (c0 : Nat) (l0 : List S43) (w : World) (hr0 : Kd.C k43 w A0 l0.length l0) (hc0 : l0.length ≤ c0) (h : laws_FnExactTurned.F k l0) :
    Calls Try.prog 6 #[.slice A0 l0.length c0] w fun e w' => e = .returned (.bool true) ∧ Below w.heap.size w w' := by
  have hu44 := Try.underlying44
  have HR0 := Aside0.mk hr0
  have HC0 := Aside0.mk hc0
  have HB := Aside0.mk (Below.refl w.heap.size w)
  clear hr0 hc0
  obtain ⟨t, hsz, h⟩ := h
  have ESZ := Aside0.mk hsz
  clear hsz
  rcases h with c1 | ⟨c1, X, L, b, m1, X', m, L', hto, hs, hi, hel, hex, hmx, h1, hml, hhl, h0⟩
  · have c1b0 : decide (t < 0) = true := decide_eq_true c1
    clear c1
    go_enter Try.func6, Try.ntmps6
    go_wp2_with (first | ((with_reducible refine gate_callee (f := 9) rfl ?_); (try (refine gate_guard (by rfl) ?_; dsimp only)); refine goesL_ (some 16) rfl rfl Try.func9 (by kernel_rfl) rfl #[.slice A0 l0.length c0, .int .i64 1048576] rfl (by (try simp only [List.map_toArray, List.map_cons, List.map_nil]); first | done | rfl | (simp only [List.length_drop, List.length_take]; rfl)) ?_; (with_reducible refine (laws_szPNodeS.calls k A0 c0 l0 1048576 t _ ?side1 HC0.out ESZ.out).mono ?_); (case side1 => exact Kd.C_below HR0.out (by repeat (first | (with_reducible first | exact HB.out | apply below_alloc | apply pw_below_drewN | apply below_drew1) | exact HB.out))); rintro e w1 ⟨rfl, hb⟩; refine ⟨_, rfl, ?_⟩; have nb_ := Aside0.mk (below_step (by repeat (first | (with_reducible first | exact HB.out | apply below_alloc | apply pw_below_drewN | apply below_drew1) | exact HB.out)) hb); clear hb HB; have HB := nb_; clear nb_))
    go_ret
    exact ⟨by first | rfl | (simp [*] <;> rfl), (by repeat (first | (with_reducible first | exact HB.out | apply below_alloc | apply pw_below_drewN | apply below_drew1) | exact HB.out))⟩
  · have c1b0 : decide (t < 0) = false := decide_eq_false (by omega)
    have c2b0 : decide (m1 < 0) = false := decide_eq_false (by omega)
    have c3b0 : decide (m < 0) = false := decide_eq_false (by omega)
    have cb : (b != b) = false := by simp
    have cm : (m != m) = false := by simp
    have ETO := Aside0.mk hto
    have ES := Aside0.mk hs
    have EI := Aside0.mk hi
    have EL := Aside0.mk hel
    have EX := Aside0.mk hex
    have EMX := Aside0.mk hmx
    have EML := Aside0.mk hml
    have EH := Aside0.mk hhl
    clear c1 hto hs hi hel hex hmx h1 hml hhl h0
    go_enter Try.func6, Try.ntmps6
    go_wp2_with (first | ((with_reducible refine gate_callee (f := 9) rfl ?_); (try (refine gate_guard (by rfl) ?_; dsimp only)); refine goesL_ (some 16) rfl rfl Try.func9 (by kernel_rfl) rfl #[.slice A0 l0.length c0, .int .i64 1048576] rfl (by (try simp only [List.map_toArray, List.map_cons, List.map_nil]); first | done | rfl | (simp only [List.length_drop, List.length_take]; rfl)) ?_; (with_reducible refine (laws_szPNodeS.calls k A0 c0 l0 1048576 t _ ?side1 HC0.out ESZ.out).mono ?_); (case side1 => exact Kd.C_below HR0.out (by repeat (first | (with_reducible first | exact HB.out | apply below_alloc | apply pw_below_drewN | apply below_drew1) | exact HB.out))); rintro e w1 ⟨rfl, hb⟩; refine ⟨_, rfl, ?_⟩; have nb_ := Aside0.mk (below_step (by repeat (first | (with_reducible first | exact HB.out | apply below_alloc | apply pw_below_drewN | apply below_drew1) | exact HB.out)) hb); clear hb HB; have HB := nb_; clear nb_) | ((with_reducible refine gate_callee (f := 11) rfl ?_); (try (refine gate_guard (by rfl) ?_; dsimp only)); refine goesL_ (some 21) rfl rfl Try.func11 (by kernel_rfl) rfl #[.slice A0 l0.length c0] rfl (by (try simp only [List.map_toArray, List.map_cons, List.map_nil]); first | done | rfl | (simp only [List.length_drop, List.length_take]; rfl)) ?_; (with_reducible refine (laws_toPNodeS.calls k A0 c0 l0 X _ ?side1 HC0.out ETO.out).mono ?_); (case side1 => exact Kd.C_below HR0.out (by repeat (first | (with_reducible first | exact HB.out | apply below_alloc | apply pw_below_drewN | apply below_drew1) | exact HB.out))); rintro e wn ⟨v_, rfl, ho0, hb⟩; refine ⟨_, rfl, ?_⟩; obtain ⟨AT, cT, rfl⟩ := Kd.S_slice ho0; have nT_ : Aside0 (Kd.S k44 44 wn w.heap.size (fun _ => True) (.slice AT X.length cT) X) := ⟨Kd.S_lower ho0 (below_size (by repeat (first | (with_reducible first | exact HB.out | apply below_alloc | apply pw_below_drewN | apply below_drew1) | exact HB.out)))⟩; have nb_ := Aside0.mk (below_step (by repeat (first | (with_reducible first | exact HB.out | apply below_alloc | apply pw_below_drewN | apply below_drew1) | exact HB.out)) hb); clear hb ho0; clear HB; have T := nT_; have HB := nb_; clear nT_ nb_) | ((with_reducible refine gate_callee (f := 22) rfl ?_); (try (refine gate_guard (by rfl) ?_; dsimp only)); refine goesL_ (some 22) rfl rfl Try.func22 (by kernel_rfl) rfl #[.slice AT X.length cT] rfl (by (try simp only [List.map_toArray, List.map_cons, List.map_nil]); first | done | rfl | (simp only [List.length_drop, List.length_take]; rfl)) ?_; (with_reducible refine (spec_Turned.calls k _ _ X L b _ ?side1 ?side2 ES.out).mono ?_); (case side1 => repeat (first | exact (Kd.S_reads' T.out).2.2 | (with_reducible refine Kd.C_alloc ?_ _) | (with_reducible refine Kd.C_drewN ?_ _) | (with_reducible refine Kd.C_drew ?_))); (case side2 => exact (Kd.S_reads' T.out).2.1); rintro e wn ⟨v_, rfl, ho0, hb⟩; refine ⟨_, rfl, ?_⟩; obtain ⟨A1, c1, rfl⟩ := Kd.S_slice ho0; obtain ⟨n1, hn1⟩ : ∃ n, n = wn.heap.size := ⟨_, rfl⟩; have N1 := Aside0.mk hn1; have nH1_ : Aside0 (Kd.S k44 44 wn w.heap.size (fun k_ => k_ < n1) (.slice A1 L.length c1) L) := ⟨Kd.S_mono (Kd.S_bound (Kd.S_lower ho0 (below_size (by repeat (first | (with_reducible first | exact HB.out | apply below_alloc | apply pw_below_drewN | apply below_drew1) | exact HB.out))))) (fun k_ hk => by rw [hn1]; exact hk.2.2.1)⟩; clear hn1; have nT_ : Aside0 (Kd.S k44 44 wn w.heap.size (fun _ => True) (.slice AT X.length cT) X) := ⟨Kd.S_below (by (with_reducible repeat (first | apply Kd.S_alloc | apply Kd.S_drewN | apply Kd.S_drew)); exact T.out) hb⟩; have nb_ := Aside0.mk (below_step (by repeat (first | (with_reducible first | exact HB.out | apply below_alloc | apply pw_below_drewN | apply below_drew1) | exact HB.out)) hb); clear hb ho0; clear T HB; have T := nT_; have H1 := nH1_; have HB := nb_; clear nT_ nH1_ nb_; clear T) | ((with_reducible refine gate_callee (f := 11) rfl ?_); (try (refine gate_guard (by rfl) ?_; dsimp only)); refine goesL_ (some 26) rfl rfl Try.func11 (by kernel_rfl) rfl #[.slice A0 l0.length c0] rfl (by (try simp only [List.map_toArray, List.map_cons, List.map_nil]); first | done | rfl | (simp only [List.length_drop, List.length_take]; rfl)) ?_; (with_reducible refine (laws_toPNodeS.calls k A0 c0 l0 X _ ?side1 HC0.out ETO.out).mono ?_); (case side1 => exact Kd.C_below HR0.out (by repeat (first | (with_reducible first | exact HB.out | apply below_alloc | apply pw_below_drewN | apply below_drew1) | exact HB.out))); rintro e wn ⟨v_, rfl, ho0, hb⟩; refine ⟨_, rfl, ?_⟩; obtain ⟨AX, cX, rfl⟩ := Kd.S_slice ho0; obtain ⟨n2, hn2⟩ : ∃ n, n = wn.heap.size := ⟨_, rfl⟩; have N2 := Aside0.mk hn2; have NN : Aside0 (n1 ≤ n2) := ⟨by rw [hn2]; exact Nat.le_trans (turned_le N1.out) (below_size hb)⟩; have nHX_ : Aside0 (Kd.S k44 44 wn w.heap.size (fun k_ => n1 ≤ k_ ∧ k_ < n2) (.slice AX X.length cX) X) := ⟨Kd.S_lower (Kd.S_mono (Kd.S_bound ho0) (fun k_ hk => ⟨Nat.le_trans (turned_le N1.out) hk.2.1, by rw [hn2]; exact hk.2.2.1⟩)) (below_size (by repeat (first | (with_reducible first | exact HB.out | apply below_alloc | apply pw_below_drewN | apply below_drew1) | exact HB.out)))⟩; clear hn2; have nH1_ : Aside0 (Kd.S k44 44 wn w.heap.size (fun k_ => k_ < n1) (.slice A1 L.length c1) L) := ⟨Kd.S_below (by (with_reducible repeat (first | apply Kd.S_alloc | apply Kd.S_drewN | apply Kd.S_drew)); exact H1.out) hb⟩; have nb_ := Aside0.mk (below_step (by repeat (first | (with_reducible first | exact HB.out | apply below_alloc | apply pw_below_drewN | apply below_drew1) | exact HB.out)) hb); clear hb ho0; clear H1 HB; have H1 := nH1_; have HX := nHX_; have HB := nb_; clear nH1_ nHX_ nb_) | ((with_reducible refine gate_callee (f := 23) rfl ?_); (try (refine gate_guard (by rfl) ?_; dsimp only)); refine goesL_ (some 29) rfl rfl Try.func23 (by kernel_rfl) rfl #[.slice AX X.length cX] rfl (by (try simp only [List.map_toArray, List.map_cons, List.map_nil]); first | done | rfl | (simp only [List.length_drop, List.length_take]; rfl)) ?_; (with_reducible refine (impl_Turned.calls k _ _ X L b _ ?side1 ?side2 EI.out).mono ?_); (case side1 => repeat (first | exact (Kd.S_reads' HX.out).2.2 | (with_reducible refine Kd.C_alloc ?_ _) | (with_reducible refine Kd.C_drewN ?_ _) | (with_reducible refine Kd.C_drew ?_))); (case side2 => exact (Kd.S_reads' HX.out).2.1); rintro e wn ⟨v_, rfl, ho0, hb⟩; refine ⟨_, rfl, ?_⟩; obtain ⟨A2, c2, rfl⟩ := Kd.S_slice ho0; have nH2_ : Aside0 (Kd.S k44 44 wn w.heap.size (fun k_ => n2 ≤ k_) (.slice A2 L.length c2) L) := ⟨Kd.S_lower (Kd.S_mono (Kd.S_bound ho0) (fun k_ hk => Nat.le_trans (turned_le N2.out) hk.2.1)) (below_size (by repeat (first | (with_reducible first | exact HB.out | apply below_alloc | apply pw_below_drewN | apply below_drew1) | exact HB.out)))⟩; have nH1_ : Aside0 (Kd.S k44 44 wn w.heap.size (fun k_ => k_ < n1) (.slice A1 L.length c1) L) := ⟨Kd.S_below (by (with_reducible repeat (first | apply Kd.S_alloc | apply Kd.S_drewN | apply Kd.S_drew)); exact H1.out) hb⟩; have nHX_ : Aside0 (Kd.S k44 44 wn w.heap.size (fun k_ => n1 ≤ k_ ∧ k_ < n2) (.slice AX X.length cX) X) := ⟨Kd.S_below (by (with_reducible repeat (first | apply Kd.S_alloc | apply Kd.S_drewN | apply Kd.S_drew)); exact HX.out) hb⟩; have nb_ := Aside0.mk (below_step (by repeat (first | (with_reducible first | exact HB.out | apply below_alloc | apply pw_below_drewN | apply below_drew1) | exact HB.out)) hb); clear hb ho0; clear H1 HX HB; have H1 := nH1_; have HX := nHX_; have H2 := nH2_; have HB := nb_; clear nH1_ nHX_ nH2_ nb_) | ((with_reducible refine gate_callee (f := 13) rfl ?_); (try (refine gate_guard (by rfl) ?_; dsimp only)); refine goesL_ (some 34) rfl rfl Try.func13 (by kernel_rfl) rfl #[.slice A2 L.length c2, .slice A1 L.length c1] rfl (by (try simp only [List.map_toArray, List.map_cons, List.map_nil]); first | done | rfl | (simp only [List.length_drop, List.length_take]; rfl)) ?_; (with_reducible refine (laws_eqPNodeS.calls k _ _ L _ _ L true _ ?side1 ?side2 ?side3 ?side4 EL.out).mono ?_); (case side1 => repeat (first | exact (Kd.S_reads' H2.out).2.2 | (with_reducible refine Kd.C_alloc ?_ _) | (with_reducible refine Kd.C_drewN ?_ _) | (with_reducible refine Kd.C_drew ?_))); (case side2 => exact (Kd.S_reads' H2.out).2.1); (case side3 => repeat (first | exact (Kd.S_reads' H1.out).2.2 | (with_reducible refine Kd.C_alloc ?_ _) | (with_reducible refine Kd.C_drewN ?_ _) | (with_reducible refine Kd.C_drew ?_))); (case side4 => exact (Kd.S_reads' H1.out).2.1); rintro e wn ⟨rfl, hb⟩; refine ⟨_, rfl, ?_⟩; have nH1_ : Aside0 (Kd.S k44 44 wn w.heap.size (fun k_ => k_ < n1) (.slice A1 L.length c1) L) := ⟨Kd.S_below (by (with_reducible repeat (first | apply Kd.S_alloc | apply Kd.S_drewN | apply Kd.S_drew)); exact H1.out) hb⟩; have nHX_ : Aside0 (Kd.S k44 44 wn w.heap.size (fun k_ => n1 ≤ k_ ∧ k_ < n2) (.slice AX X.length cX) X) := ⟨Kd.S_below (by (with_reducible repeat (first | apply Kd.S_alloc | apply Kd.S_drewN | apply Kd.S_drew)); exact HX.out) hb⟩; have nH2_ : Aside0 (Kd.S k44 44 wn w.heap.size (fun k_ => n2 ≤ k_) (.slice A2 L.length c2) L) := ⟨Kd.S_below (by (with_reducible repeat (first | apply Kd.S_alloc | apply Kd.S_drewN | apply Kd.S_drew)); exact H2.out) hb⟩; have nb_ := Aside0.mk (below_step (by repeat (first | (with_reducible first | exact HB.out | apply below_alloc | apply pw_below_drewN | apply below_drew1) | exact HB.out)) hb); clear hb; clear H1 HX H2 HB; have H1 := nH1_; have HX := nHX_; have H2 := nH2_; have HB := nb_; clear nH1_ nHX_ nH2_ nb_) | ((with_reducible refine gate_callee (f := 11) rfl ?_); (try (refine gate_guard (by rfl) ?_; dsimp only)); refine goesL_ (some 43) rfl rfl Try.func11 (by kernel_rfl) rfl #[.slice A0 l0.length c0] rfl (by (try simp only [List.map_toArray, List.map_cons, List.map_nil]); first | done | rfl | (simp only [List.length_drop, List.length_take]; rfl)) ?_; (with_reducible refine (laws_toPNodeS.calls k A0 c0 l0 X _ ?side1 HC0.out ETO.out).mono ?_); (case side1 => exact Kd.C_below HR0.out (by repeat (first | (with_reducible first | exact HB.out | apply below_alloc | apply pw_below_drewN | apply below_drew1) | exact HB.out))); rintro e wn ⟨v_, rfl, ho0, hb⟩; refine ⟨_, rfl, ?_⟩; obtain ⟨AT, cT, rfl⟩ := Kd.S_slice ho0; have nT_ : Aside0 (Kd.S k44 44 wn w.heap.size (fun _ => True) (.slice AT X.length cT) X) := ⟨Kd.S_lower ho0 (below_size (by repeat (first | (with_reducible first | exact HB.out | apply below_alloc | apply pw_below_drewN | apply below_drew1) | exact HB.out)))⟩; have nH1_ : Aside0 (Kd.S k44 44 wn w.heap.size (fun k_ => k_ < n1) (.slice A1 L.length c1) L) := ⟨Kd.S_below (by (with_reducible repeat (first | apply Kd.S_alloc | apply Kd.S_drewN | apply Kd.S_drew)); exact H1.out) hb⟩; have nHX_ : Aside0 (Kd.S k44 44 wn w.heap.size (fun k_ => n1 ≤ k_ ∧ k_ < n2) (.slice AX X.length cX) X) := ⟨Kd.S_below (by (with_reducible repeat (first | apply Kd.S_alloc | apply Kd.S_drewN | apply Kd.S_drew)); exact HX.out) hb⟩; have nH2_ : Aside0 (Kd.S k44 44 wn w.heap.size (fun k_ => n2 ≤ k_) (.slice A2 L.length c2) L) := ⟨Kd.S_below (by (with_reducible repeat (first | apply Kd.S_alloc | apply Kd.S_drewN | apply Kd.S_drew)); exact H2.out) hb⟩; have nb_ := Aside0.mk (below_step (by repeat (first | (with_reducible first | exact HB.out | apply below_alloc | apply pw_below_drewN | apply below_drew1) | exact HB.out)) hb); clear hb ho0; clear H1 HX H2 HB; have H1 := nH1_; have HX := nHX_; have H2 := nH2_; have T := nT_; have HB := nb_; clear nH1_ nHX_ nH2_ nT_ nb_) | ((with_reducible refine gate_callee (f := 13) rfl ?_); (try (refine gate_guard (by rfl) ?_; dsimp only)); refine goesL_ (some 44) rfl rfl Try.func13 (by kernel_rfl) rfl #[.slice AX X.length cX, .slice AT X.length cT] rfl (by (try simp only [List.map_toArray, List.map_cons, List.map_nil]); first | done | rfl | (simp only [List.length_drop, List.length_take]; rfl)) ?_; (with_reducible refine (laws_eqPNodeS.calls k _ _ X _ _ X true _ ?side1 ?side2 ?side3 ?side4 EX.out).mono ?_); (case side1 => repeat (first | exact (Kd.S_reads' HX.out).2.2 | (with_reducible refine Kd.C_alloc ?_ _) | (with_reducible refine Kd.C_drewN ?_ _) | (with_reducible refine Kd.C_drew ?_))); (case side2 => exact (Kd.S_reads' HX.out).2.1); (case side3 => repeat (first | exact (Kd.S_reads' T.out).2.2 | (with_reducible refine Kd.C_alloc ?_ _) | (with_reducible refine Kd.C_drewN ?_ _) | (with_reducible refine Kd.C_drew ?_))); (case side4 => exact (Kd.S_reads' T.out).2.1); rintro e wn ⟨rfl, hb⟩; refine ⟨_, rfl, ?_⟩; have nH1_ : Aside0 (Kd.S k44 44 wn w.heap.size (fun k_ => k_ < n1) (.slice A1 L.length c1) L) := ⟨Kd.S_below (by (with_reducible repeat (first | apply Kd.S_alloc | apply Kd.S_drewN | apply Kd.S_drew)); exact H1.out) hb⟩; have nHX_ : Aside0 (Kd.S k44 44 wn w.heap.size (fun k_ => n1 ≤ k_ ∧ k_ < n2) (.slice AX X.length cX) X) := ⟨Kd.S_below (by (with_reducible repeat (first | apply Kd.S_alloc | apply Kd.S_drewN | apply Kd.S_drew)); exact HX.out) hb⟩; have nH2_ : Aside0 (Kd.S k44 44 wn w.heap.size (fun k_ => n2 ≤ k_) (.slice A2 L.length c2) L) := ⟨Kd.S_below (by (with_reducible repeat (first | apply Kd.S_alloc | apply Kd.S_drewN | apply Kd.S_drew)); exact H2.out) hb⟩; have nT_ : Aside0 (Kd.S k44 44 wn w.heap.size (fun _ => True) (.slice AT X.length cT) X) := ⟨Kd.S_below (by (with_reducible repeat (first | apply Kd.S_alloc | apply Kd.S_drewN | apply Kd.S_drew)); exact T.out) hb⟩; have nb_ := Aside0.mk (below_step (by repeat (first | (with_reducible first | exact HB.out | apply below_alloc | apply pw_below_drewN | apply below_drew1) | exact HB.out)) hb); clear hb; clear H1 HX H2 T HB; have H1 := nH1_; have HX := nHX_; have H2 := nH2_; have T := nT_; have HB := nb_; clear nH1_ nHX_ nH2_ nT_ nb_; clear T) | ((with_reducible refine gate_callee (f := 19) rfl ?_); (try (refine gate_guard (by rfl) ?_; dsimp only)); refine goesL_ (some 48) rfl rfl Try.func19 (by kernel_rfl) rfl #[.slice AX X.length cX, .int .i64 1] rfl (by (try simp only [List.map_toArray, List.map_cons, List.map_nil]); first | done | rfl | (simp only [List.length_drop, List.length_take]; rfl)) ?_; (with_reducible refine (laws_markPNodeS.calls k (fun k_ => n1 ≤ k_ ∧ k_ < n2) (.slice AX X.length cX) X 1 m1 X' w _ ?side1 ?side2 EMX.out).mono ?_); (case side1 => exact (by repeat (first | (with_reducible first | exact HB.out | apply below_alloc | apply pw_below_drewN | apply below_drew1) | exact HB.out))); (case side2 => exact (by (with_reducible repeat (first | apply Kd.S_alloc | apply Kd.S_drewN | apply Kd.S_drew)); exact HX.out)); rintro e wn ⟨rfl, hy0, hb, hkp⟩; refine ⟨_, rfl, ?_⟩; have nH1_ : Aside0 (Kd.S k44 44 wn w.heap.size (fun k_ => k_ < n1) (.slice A1 L.length c1) L) := ⟨Kd.S_kept (by (with_reducible repeat (first | apply Kd.S_alloc | apply Kd.S_drewN | apply Kd.S_drew)); exact H1.out) hkp (fun k_ hk hs_ => absurd hs_.1 (Nat.not_le.2 hk))⟩; have nH2_ : Aside0 (Kd.S k44 44 wn w.heap.size (fun k_ => n2 ≤ k_) (.slice A2 L.length c2) L) := ⟨Kd.S_kept (by (with_reducible repeat (first | apply Kd.S_alloc | apply Kd.S_drewN | apply Kd.S_drew)); exact H2.out) hkp (fun k_ hk hs_ => absurd hs_.2 (Nat.not_lt.2 hk))⟩; have nb_ := Aside0.mk hb; clear hb hkp hy0; clear H1 HX H2 HB; have H1 := nH1_; have H2 := nH2_; have HB := nb_; clear nH1_ nH2_ nb_) | ((with_reducible refine gate_callee (f := 13) rfl ?_); (try (refine gate_guard (by rfl) ?_; dsimp only)); refine goesL_ (some 54) rfl rfl Try.func13 (by kernel_rfl) rfl #[.slice A2 L.length c2, .slice A1 L.length c1] rfl (by (try simp only [List.map_toArray, List.map_cons, List.map_nil]); first | done | rfl | (simp only [List.length_drop, List.length_take]; rfl)) ?_; (with_reducible refine (laws_eqPNodeS.calls k _ _ L _ _ L true _ ?side1 ?side2 ?side3 ?side4 EL.out).mono ?_); (case side1 => repeat (first | exact (Kd.S_reads' H2.out).2.2 | (with_reducible refine Kd.C_alloc ?_ _) | (with_reducible refine Kd.C_drewN ?_ _) | (with_reducible refine Kd.C_drew ?_))); (case side2 => exact (Kd.S_reads' H2.out).2.1); (case side3 => repeat (first | exact (Kd.S_reads' H1.out).2.2 | (with_reducible refine Kd.C_alloc ?_ _) | (with_reducible refine Kd.C_drewN ?_ _) | (with_reducible refine Kd.C_drew ?_))); (case side4 => exact (Kd.S_reads' H1.out).2.1); rintro e wn ⟨rfl, hb⟩; refine ⟨_, rfl, ?_⟩; have nH1_ : Aside0 (Kd.S k44 44 wn w.heap.size (fun k_ => k_ < n1) (.slice A1 L.length c1) L) := ⟨Kd.S_below (by (with_reducible repeat (first | apply Kd.S_alloc | apply Kd.S_drewN | apply Kd.S_drew)); exact H1.out) hb⟩; have nH2_ : Aside0 (Kd.S k44 44 wn w.heap.size (fun k_ => n2 ≤ k_) (.slice A2 L.length c2) L) := ⟨Kd.S_below (by (with_reducible repeat (first | apply Kd.S_alloc | apply Kd.S_drewN | apply Kd.S_drew)); exact H2.out) hb⟩; have nb_ := Aside0.mk (below_step (by repeat (first | (with_reducible first | exact HB.out | apply below_alloc | apply pw_below_drewN | apply below_drew1) | exact HB.out)) hb); clear hb; clear H1 H2 HB; have H1 := nH1_; have H2 := nH2_; have HB := nb_; clear nH1_ nH2_ nb_) | ((with_reducible refine gate_callee (f := 19) rfl ?_); (try (refine gate_guard (by rfl) ?_; dsimp only)); refine goesL_ (some 64) rfl rfl Try.func19 (by kernel_rfl) rfl #[.slice A2 L.length c2, .int .i64 1] rfl (by (try simp only [List.map_toArray, List.map_cons, List.map_nil]); first | done | rfl | (simp only [List.length_drop, List.length_take]; rfl)) ?_; (with_reducible refine (laws_markPNodeS.calls k (fun k_ => n2 ≤ k_) (.slice A2 L.length c2) L 1 m L' w _ ?side1 ?side2 EML.out).mono ?_); (case side1 => exact (by repeat (first | (with_reducible first | exact HB.out | apply below_alloc | apply pw_below_drewN | apply below_drew1) | exact HB.out))); (case side2 => exact (by (with_reducible repeat (first | apply Kd.S_alloc | apply Kd.S_drewN | apply Kd.S_drew)); exact H2.out)); rintro e wn ⟨rfl, hy0, hb, hkp⟩; refine ⟨_, rfl, ?_⟩; have nH1_ : Aside0 (Kd.S k44 44 wn w.heap.size (fun k_ => k_ < n1) (.slice A1 L.length c1) L) := ⟨Kd.S_kept (by (with_reducible repeat (first | apply Kd.S_alloc | apply Kd.S_drewN | apply Kd.S_drew)); exact H1.out) hkp (fun k_ hk hs_ => absurd (Nat.le_trans NN.out hs_) (Nat.not_le.2 hk))⟩; have nH2_ : Aside0 (Kd.S k44 44 wn w.heap.size (fun _ => True) (.slice A2 L.length c2) L') := ⟨Kd.S_mono hy0 (fun _ _ => trivial)⟩; have nb_ := Aside0.mk hb; clear hb hkp hy0; clear H1 H2 HB; have H1 := nH1_; have H2 := nH2_; have HB := nb_; clear nH1_ nH2_ nb_) | ((with_reducible refine gate_callee (f := 24) rfl ?_); (try (refine gate_guard (by rfl) ?_; dsimp only)); refine goesL_ (some 67) rfl rfl Try.func24 (by kernel_rfl) rfl #[.slice A2 L'.length c2, .int .i64 1] rfl (by (try simp only [List.map_toArray, List.map_cons, List.map_nil]); first | done | (rw [show L'.length = L.length from (Kd.S_reads' H2.out).1.symm] <;> rfl) | rfl | (simp only [List.length_drop, List.length_take]; rfl)) ?_; (with_reducible refine (laws_heldPNodeS.calls k _ _ L' 1 m _ ?side1 ?side2 EH.out).mono ?_); (case side1 => repeat (first | exact (Kd.S_reads' H2.out).2.2 | (with_reducible refine Kd.C_alloc ?_ _) | (with_reducible refine Kd.C_drewN ?_ _) | (with_reducible refine Kd.C_drew ?_))); (case side2 => rw [show L'.length = L.length from (Kd.S_reads' H2.out).1.symm]; exact (Kd.S_reads' H2.out).2.1); rintro e wn ⟨rfl, hb⟩; refine ⟨_, rfl, ?_⟩; have nH1_ : Aside0 (Kd.S k44 44 wn w.heap.size (fun k_ => k_ < n1) (.slice A1 L.length c1) L) := ⟨Kd.S_below (by (with_reducible repeat (first | apply Kd.S_alloc | apply Kd.S_drewN | apply Kd.S_drew)); exact H1.out) hb⟩; have nH2_ : Aside0 (Kd.S k44 44 wn w.heap.size (fun _ => True) (.slice A2 L.length c2) L') := ⟨Kd.S_below (by (with_reducible repeat (first | apply Kd.S_alloc | apply Kd.S_drewN | apply Kd.S_drew)); exact H2.out) hb⟩; have nb_ := Aside0.mk (below_step (by repeat (first | (with_reducible first | exact HB.out | apply below_alloc | apply pw_below_drewN | apply below_drew1) | exact HB.out)) hb); clear hb; clear H1 H2 HB; have H1 := nH1_; have H2 := nH2_; have HB := nb_; clear nH1_ nH2_ nb_) | ((with_reducible refine gate_callee (f := 11) rfl ?_); (try (refine gate_guard (by rfl) ?_; dsimp only)); refine goesL_ (some 75) rfl rfl Try.func11 (by kernel_rfl) rfl #[.slice A0 l0.length c0] rfl (by (try simp only [List.map_toArray, List.map_cons, List.map_nil]); first | done | rfl | (simp only [List.length_drop, List.length_take]; rfl)) ?_; (with_reducible refine (laws_toPNodeS.calls k A0 c0 l0 X _ ?side1 HC0.out ETO.out).mono ?_); (case side1 => exact Kd.C_below HR0.out (by repeat (first | (with_reducible first | exact HB.out | apply below_alloc | apply pw_below_drewN | apply below_drew1) | exact HB.out))); rintro e wn ⟨v_, rfl, ho0, hb⟩; refine ⟨_, rfl, ?_⟩; obtain ⟨AT, cT, rfl⟩ := Kd.S_slice ho0; have nT_ : Aside0 (Kd.S k44 44 wn w.heap.size (fun _ => True) (.slice AT X.length cT) X) := ⟨Kd.S_lower ho0 (below_size (by repeat (first | (with_reducible first | exact HB.out | apply below_alloc | apply pw_below_drewN | apply below_drew1) | exact HB.out)))⟩; have nH1_ : Aside0 (Kd.S k44 44 wn w.heap.size (fun k_ => k_ < n1) (.slice A1 L.length c1) L) := ⟨Kd.S_below (by (with_reducible repeat (first | apply Kd.S_alloc | apply Kd.S_drewN | apply Kd.S_drew)); exact H1.out) hb⟩; have nH2_ : Aside0 (Kd.S k44 44 wn w.heap.size (fun _ => True) (.slice A2 L.length c2) L') := ⟨Kd.S_below (by (with_reducible repeat (first | apply Kd.S_alloc | apply Kd.S_drewN | apply Kd.S_drew)); exact H2.out) hb⟩; have nb_ := Aside0.mk (below_step (by repeat (first | (with_reducible first | exact HB.out | apply below_alloc | apply pw_below_drewN | apply below_drew1) | exact HB.out)) hb); clear hb ho0; clear H1 H2 HB; have H1 := nH1_; have H2 := nH2_; have T := nT_; have HB := nb_; clear nH1_ nH2_ nT_ nb_) | ((with_reducible refine gate_callee (f := 23) rfl ?_); (try (refine gate_guard (by rfl) ?_; dsimp only)); refine goesL_ (some 76) rfl rfl Try.func23 (by kernel_rfl) rfl #[.slice AT X.length cT] rfl (by (try simp only [List.map_toArray, List.map_cons, List.map_nil]); first | done | rfl | (simp only [List.length_drop, List.length_take]; rfl)) ?_; (with_reducible refine (impl_Turned.calls k _ _ X L b _ ?side1 ?side2 EI.out).mono ?_); (case side1 => repeat (first | exact (Kd.S_reads' T.out).2.2 | (with_reducible refine Kd.C_alloc ?_ _) | (with_reducible refine Kd.C_drewN ?_ _) | (with_reducible refine Kd.C_drew ?_))); (case side2 => exact (Kd.S_reads' T.out).2.1); rintro e wn ⟨v_, rfl, ho0, hb⟩; refine ⟨_, rfl, ?_⟩; obtain ⟨A3, c3, rfl⟩ := Kd.S_slice ho0; have nH3_ : Aside0 (Kd.S k44 44 wn w.heap.size (fun _ => True) (.slice A3 L.length c3) L) := ⟨Kd.S_lower ho0 (below_size (by repeat (first | (with_reducible first | exact HB.out | apply below_alloc | apply pw_below_drewN | apply below_drew1) | exact HB.out)))⟩; have nH1_ : Aside0 (Kd.S k44 44 wn w.heap.size (fun k_ => k_ < n1) (.slice A1 L.length c1) L) := ⟨Kd.S_below (by (with_reducible repeat (first | apply Kd.S_alloc | apply Kd.S_drewN | apply Kd.S_drew)); exact H1.out) hb⟩; have nH2_ : Aside0 (Kd.S k44 44 wn w.heap.size (fun _ => True) (.slice A2 L.length c2) L') := ⟨Kd.S_below (by (with_reducible repeat (first | apply Kd.S_alloc | apply Kd.S_drewN | apply Kd.S_drew)); exact H2.out) hb⟩; have nT_ : Aside0 (Kd.S k44 44 wn w.heap.size (fun _ => True) (.slice AT X.length cT) X) := ⟨Kd.S_below (by (with_reducible repeat (first | apply Kd.S_alloc | apply Kd.S_drewN | apply Kd.S_drew)); exact T.out) hb⟩; have nb_ := Aside0.mk (below_step (by repeat (first | (with_reducible first | exact HB.out | apply below_alloc | apply pw_below_drewN | apply below_drew1) | exact HB.out)) hb); clear hb ho0; clear H1 H2 T HB; have H1 := nH1_; have H2 := nH2_; have T := nT_; have H3 := nH3_; have HB := nb_; clear nH1_ nH2_ nT_ nH3_ nb_; clear T) | ((with_reducible refine gate_callee (f := 13) rfl ?_); (try (refine gate_guard (by rfl) ?_; dsimp only)); refine goesL_ (some 81) rfl rfl Try.func13 (by kernel_rfl) rfl #[.slice A3 L.length c3, .slice A1 L.length c1] rfl (by (try simp only [List.map_toArray, List.map_cons, List.map_nil]); first | done | rfl | (simp only [List.length_drop, List.length_take]; rfl)) ?_; (with_reducible refine (laws_eqPNodeS.calls k _ _ L _ _ L true _ ?side1 ?side2 ?side3 ?side4 EL.out).mono ?_); (case side1 => repeat (first | exact (Kd.S_reads' H3.out).2.2 | (with_reducible refine Kd.C_alloc ?_ _) | (with_reducible refine Kd.C_drewN ?_ _) | (with_reducible refine Kd.C_drew ?_))); (case side2 => exact (Kd.S_reads' H3.out).2.1); (case side3 => repeat (first | exact (Kd.S_reads' H1.out).2.2 | (with_reducible refine Kd.C_alloc ?_ _) | (with_reducible refine Kd.C_drewN ?_ _) | (with_reducible refine Kd.C_drew ?_))); (case side4 => exact (Kd.S_reads' H1.out).2.1); rintro e wn ⟨rfl, hb⟩; refine ⟨_, rfl, ?_⟩; have nH1_ : Aside0 (Kd.S k44 44 wn w.heap.size (fun k_ => k_ < n1) (.slice A1 L.length c1) L) := ⟨Kd.S_below (by (with_reducible repeat (first | apply Kd.S_alloc | apply Kd.S_drewN | apply Kd.S_drew)); exact H1.out) hb⟩; have nH2_ : Aside0 (Kd.S k44 44 wn w.heap.size (fun _ => True) (.slice A2 L.length c2) L') := ⟨Kd.S_below (by (with_reducible repeat (first | apply Kd.S_alloc | apply Kd.S_drewN | apply Kd.S_drew)); exact H2.out) hb⟩; have nH3_ : Aside0 (Kd.S k44 44 wn w.heap.size (fun _ => True) (.slice A3 L.length c3) L) := ⟨Kd.S_below (by (with_reducible repeat (first | apply Kd.S_alloc | apply Kd.S_drewN | apply Kd.S_drew)); exact H3.out) hb⟩; have nb_ := Aside0.mk (below_step (by repeat (first | (with_reducible first | exact HB.out | apply below_alloc | apply pw_below_drewN | apply below_drew1) | exact HB.out)) hb); clear hb; clear H1 H2 H3 HB; have H1 := nH1_; have H2 := nH2_; have H3 := nH3_; have HB := nb_; clear nH1_ nH2_ nH3_ nb_; clear H3) | ((with_reducible refine gate_callee (f := 24) rfl ?_); (try (refine gate_guard (by rfl) ?_; dsimp only)); refine goesL_ (some 90) rfl rfl Try.func24 (by kernel_rfl) rfl #[.slice A2 L'.length c2, .int .i64 1] rfl (by (try simp only [List.map_toArray, List.map_cons, List.map_nil]); first | done | (rw [show L'.length = L.length from (Kd.S_reads' H2.out).1.symm] <;> rfl) | rfl | (simp only [List.length_drop, List.length_take]; rfl)) ?_; (with_reducible refine (laws_heldPNodeS.calls k _ _ L' 1 m _ ?side1 ?side2 EH.out).mono ?_); (case side1 => repeat (first | exact (Kd.S_reads' H2.out).2.2 | (with_reducible refine Kd.C_alloc ?_ _) | (with_reducible refine Kd.C_drewN ?_ _) | (with_reducible refine Kd.C_drew ?_))); (case side2 => rw [show L'.length = L.length from (Kd.S_reads' H2.out).1.symm]; exact (Kd.S_reads' H2.out).2.1); rintro e wn ⟨rfl, hb⟩; refine ⟨_, rfl, ?_⟩; have nH1_ : Aside0 (Kd.S k44 44 wn w.heap.size (fun k_ => k_ < n1) (.slice A1 L.length c1) L) := ⟨Kd.S_below (by (with_reducible repeat (first | apply Kd.S_alloc | apply Kd.S_drewN | apply Kd.S_drew)); exact H1.out) hb⟩; have nH2_ : Aside0 (Kd.S k44 44 wn w.heap.size (fun _ => True) (.slice A2 L.length c2) L') := ⟨Kd.S_below (by (with_reducible repeat (first | apply Kd.S_alloc | apply Kd.S_drewN | apply Kd.S_drew)); exact H2.out) hb⟩; have nb_ := Aside0.mk (below_step (by repeat (first | (with_reducible first | exact HB.out | apply below_alloc | apply pw_below_drewN | apply below_drew1) | exact HB.out)) hb); clear hb; clear H1 H2 HB; have H1 := nH1_; have H2 := nH2_; have HB := nb_; clear nH1_ nH2_ nb_))
    go_ret
    exact ⟨by first | rfl | (simp [*] <;> rfl), (by repeat (first | (with_reducible first | exact HB.out | apply below_alloc | apply pw_below_drewN | apply below_drew1) | exact HB.out))⟩

end Go.Proofs.Ytaliphegdclkfaa.PU
