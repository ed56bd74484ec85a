-- Printed by this session's pdrive.py over the kit's printer.
import Derived.Test.YtomfhenoblfckaaDoorPTx0
import Derived.Test.YtomfhenoblfckaaDoorPTx3
namespace Go.Proofs.YtomfhenoblfckaaDoor.PT
open Go.RowKit Go.Proofs.YtomfhenoblfckaaDoorW.PrintWords Go.Proofs.YtomfhenoblfckaaDoorW.PrintLast Go.Proofs.YtomfhenoblfckaaDoorW.PrintMore Go.Proofs.YtomfhenoblfckaaDoorW.WordsB Go.Proofs.YtomfhenoblfckaaDoorW.GlM
attribute [local go_sem] max2_int min2_int max_two min_two max_three min_three max_four min_four   -- for this text's walks alone
set_option linter.unusedVariables false
set_option linter.unusedSimpArgs false

/-! ### laws_eqRNodeS: function 24 -/
def laws_eqRNodeS.l0 : Nat → List (S55) → List (S55) → Int → Option (Bool)
 | 0, _, _, _ => none
 | k + 1, x0, x1, x5 => if x5 < (x0.length : Int) then (if 0 ≤ x5 then (if x5 < (x1.length : Int) then ((laws_eqRNode.f k ((rd_T55 x0 x5).f0) ((rd_T55 x0 x5).f1) ((rd_T55 x0 x5).f2) ((rd_T55 x0 x5).f3) ((rd_T55 x0 x5).f4) ((rd_T55 x0 x5).f5) ((rd_T55 x0 x5).f6) ((rd_T55 x1 x5).f0) ((rd_T55 x1 x5).f1) ((rd_T55 x1 x5).f2) ((rd_T55 x1 x5).f3) ((rd_T55 x1 x5).f4) ((rd_T55 x1 x5).f5) ((rd_T55 x1 x5).f6)).bind fun t173 => (if t173 = true then (laws_eqRNodeS.l0 k x0 x1 (wrap64 (x5 + 1))) else (some false))) else (none)) else (none)) else (some true)
def laws_eqRNodeS.f (k : Nat) (l0 : List (S55)) (l1 : List (S55)) : Option (Bool) := if (l0.length : Int) = (l1.length : Int) then (laws_eqRNodeS.l0 k l0 l1 0) else (some false)
theorem laws_eqRNodeS.mono_l : ∀ k, (∀ y0 y1 y2, LeO (laws_eqRNodeS.l0 k y0 y1 y2) (laws_eqRNodeS.l0 (k + 1) y0 y1 y2))
 | 0 => fun _ _ _ r h => by simp [laws_eqRNodeS.l0] at h
 | k + 1 => by
  have ih0 := laws_eqRNodeS.mono_l k
  ·intro y0 y1 y2
   unfold laws_eqRNodeS.l0
   repeat' first
   | (with_reducible exact ih0 _ _ _)
   | (with_reducible exact laws_eqRNode.mono _ _ _ _ _ _ _ _ _ _ _ _ _ _ _)
   | (with_reducible exact LeO.refl _)
   | (with_reducible exact LeO.none _)
   | (with_reducible refine LeO.ite ?_ ?_)
   | (with_reducible refine LeO.bind ?_ (fun _ => ?_))
   | exact ih0 _ _ _
   | exact laws_eqRNode.mono _ _ _ _ _ _ _ _ _ _ _ _ _ _ _
   | exact LeO.none _
   | refine LeO.ite ?_ ?_
   | refine LeO.bind ?_ (fun _ => ?_)
theorem laws_eqRNodeS.mono : ∀ a0 a1 k, LeO (laws_eqRNodeS.f k a0 a1) (laws_eqRNodeS.f (k + 1) a0 a1) := by
 intro a0 a1 k
 have ih0 := laws_eqRNodeS.mono_l k
 unfold laws_eqRNodeS.f
 repeat' first
   | (with_reducible exact ih0 _ _ _)
   | (with_reducible exact laws_eqRNode.mono _ _ _ _ _ _ _ _ _ _ _ _ _ _ _)
   | (with_reducible exact LeO.refl _)
   | (with_reducible exact LeO.none _)
   | (with_reducible refine LeO.ite ?_ ?_)
   | (with_reducible refine LeO.bind ?_ (fun _ => ?_))
   | exact ih0 _ _ _
   | exact laws_eqRNode.mono _ _ _ _ _ _ _ _ _ _ _ _ _ _ _
   | exact LeO.none _
   | refine LeO.ite ?_ ?_
   | refine LeO.bind ?_ (fun _ => ?_)
def laws_eqRNodeS.T6 : Bool × List (List Nat × List Nat) := (true, [([], []), ([], []), ([0, 1], [0, 1]), ([2], [2]), ([], []), ([], []), ([4, 5], [4, 5]), ([6], [6]), ([3, 7], [3, 7]), ([8], [8])])
def laws_eqRNodeS.B6 : List Nat := [0, 0, 3, 7, 0, 0, 48, 112, 255, 511]
theorem laws_eqRNodeS.tab6 : rtab .any (opsOf Tryd.f24 6) = laws_eqRNodeS.T6 := by kernel_rfl
theorem laws_eqRNodeS.bits6 : waitsOk laws_eqRNodeS.T6.2 laws_eqRNodeS.B6 = true := by kernel_rfl
set_option maxHeartbeats 8000000 in
set_option maxRecDepth 100000 in
theorem laws_eqRNodeS.calls (k : Nat) (A0 : Option Addr) (c0 : Nat) (l0 : List (S55)) (A1 : Option Addr) (c1 : Nat) (l1 : List (S55)) (r : Bool) (w : World) (hr0 : Kd.C k55 w A0 l0.length l0) (hc0 : l0.length ≤ c0) (hr1 : Kd.C k55 w A1 l1.length l1) (hc1 : l1.length ≤ c1) (h : laws_eqRNodeS.f k l0 l1 = some r) :
  Calls Tryd.prog 24 #[.slice A0 l0.length c0, .slice A1 l1.length c1] w fun e w' => e = .returned (.bool r) ∧ Below w.heap.size w w' := by
 have hu55 := Tryd.underlying55
 have HR0 := Aside0.mk hr0
 have HC0 := Aside0.mk hc0
 clear hr0 hc0
 have HR1 := Aside0.mk hr1
 have HC1 := Aside0.mk hc1
 clear hr1 hc1
 have HB := Aside0.mk (Below.refl w.heap.size w)
 have H : (if (l0.length : Int) = (l1.length : Int) then (laws_eqRNodeS.l0 k l0 l1 0) else (some false)) = some r := h
 clear h
 by_cases c3 : (l0.length : Int) = (l1.length : Int)
 ·rw [if_pos c3] at H
  have c3b0 : ((l0.length : Int) == (l1.length : Int)) = true := beq_iff_eq.mpr c3
  have c3b1 : ((l0.length : Int) != (l1.length : Int)) = false := bne_eq_false_iff_eq.mpr c3
  have c3b2 : (l0.length == l1.length) = true := by first | simpa using c3 | (simp at c3 ⊢; omega)
  clear c3
  have H' := Aside0.mk H
  clear H
  go_enter Tryd.func24, Tryd.ntmps24
  go_wp2
  go_loopg [5] k (fun kq v5 w' => ∃ (x5_1 : Int), v5 = .int .i64 x5_1 ∧ Aside0 (laws_eqRNodeS.l0 kq l0 l1 x5_1 = some r) ∧ Aside0 (kq ≤ k) ∧ Aside0 (Below w.heap.size w w'))
  case atStart => exact ⟨(0), (by first | rfl | (simp; done) | (simp [*]; done)), H', ⟨Nat.le_refl _⟩, ⟨by repeat (first | (with_reducible first | exact HB.out | apply below_alloc | apply pw_below_drewN | apply below_drew1) | exact HB.out)⟩⟩
  case round =>
   clear H'
   try clear c1
   try clear c2
   try clear p2
   try clear c3
   try clear c3b0
   try clear c3b1
   try clear c3b2
   obtain ⟨x5_1, rfl, HA, HK1, HB⟩ := hrel
   cases gk with
   | zero => exact absurd HA.out (by simp [laws_eqRNodeS.l0])
   | succ k1 =>
    have H := HA.out
    clear HA
    simp only [laws_eqRNodeS.l0] at H
    by_cases c4 : x5_1 < (l0.length : Int)
    ·rw [if_pos c4] at H
     have c4b0 : decide (x5_1 < (l0.length : Int)) = true := decide_eq_true c4
     clear c4
     by_cases c5 : 0 ≤ x5_1
     ·rw [if_pos c5] at H
      have c5b0 : decide (0 ≤ x5_1) = true := decide_eq_true c5
      clear c5
      by_cases c6 : x5_1 < (l1.length : Int)
      ·rw [if_pos c6] at H
       have c6b0 : decide (x5_1 < (l1.length : Int)) = true := decide_eq_true c6
       clear c6
       replace H := Option.bind_eq_some_iff.mp H
       obtain ⟨t173, A70, H⟩ := H
       replace H : (if t173 = true then (laws_eqRNodeS.l0 k1 l0 l1 (wrap64 (x5_1 + 1))) else (some false)) = some r := H
       have A7 := Aside0.mk A70
       clear A70
       by_cases c8 : t173 = true
       ·subst c8
        have H1 : (laws_eqRNodeS.l0 k1 l0 l1 (wrap64 (x5_1 + 1))) = some r := by rw [if_pos rfl] at H; exact H
        clear H
        have H := H1
        clear H1
        have H' := Aside0.mk H
        clear H
        try go_wp2
        have n0_ := Aside0.mk (below_drew1 HB.out)
        clear HB
        have HB := n0_
        clear n0_
        have p171 : 0 ≤ (x5_1 : Int) := of_decide_eq_true (by first | (with_reducible assumption) | assumption)
        have q171 : x5_1 < (l0.length : Int) := of_decide_eq_true (by first | (with_reducible assumption) | assumption)
        obtain ⟨ad171, A171_2, c171_2, e171, hx171_0, hx171_1, hx171_2, hx171_3, hx171_4, hx171_5, hx171_6, hl171_2, hi171_2⟩ := at_T55 HR0.out x5_1 p171 q171
        have hw171_6 := hx171_6
        have hw171_5 := hx171_5
        have hw171_4 := hx171_4
        have hw171_3 := hx171_3
        have hw171_2 := hx171_2
        have hw171_1 := hx171_1
        have hw171_0 := hx171_0
        cases e171
        replace hx171_0 := (HB.out.cell (World.block_lt_of_cell? w _ hx171_0)).trans hx171_0
        replace hx171_1 := (HB.out.cell (World.block_lt_of_cell? w _ hx171_1)).trans hx171_1
        replace hx171_2 := (HB.out.cell (World.block_lt_of_cell? w _ hx171_2)).trans hx171_2
        replace hx171_3 := (HB.out.cell (World.block_lt_of_cell? w _ hx171_3)).trans hx171_3
        replace hx171_4 := (HB.out.cell (World.block_lt_of_cell? w _ hx171_4)).trans hx171_4
        replace hx171_5 := (HB.out.cell (World.block_lt_of_cell? w _ hx171_5)).trans hx171_5
        replace hx171_6 := (HB.out.cell (World.block_lt_of_cell? w _ hx171_6)).trans hx171_6
        have HR171_2 := Aside0.mk hi171_2
        have HC171_2 := Aside0.mk hl171_2
        clear hi171_2 hl171_2
        replace p171 := eq_true p171
        replace q171 := eq_true q171
        have p172 : 0 ≤ (x5_1 : Int) := of_decide_eq_true (by first | (with_reducible assumption) | assumption)
        have q172 : x5_1 < (l1.length : Int) := of_decide_eq_true (by first | (with_reducible assumption) | assumption)
        obtain ⟨ad172, A172_2, c172_2, e172, hx172_0, hx172_1, hx172_2, hx172_3, hx172_4, hx172_5, hx172_6, hl172_2, hi172_2⟩ := at_T55 HR1.out x5_1 p172 q172
        have hw172_6 := hx172_6
        have hw172_5 := hx172_5
        have hw172_4 := hx172_4
        have hw172_3 := hx172_3
        have hw172_2 := hx172_2
        have hw172_1 := hx172_1
        have hw172_0 := hx172_0
        cases e172
        replace hx172_0 := (HB.out.cell (World.block_lt_of_cell? w _ hx172_0)).trans hx172_0
        replace hx172_1 := (HB.out.cell (World.block_lt_of_cell? w _ hx172_1)).trans hx172_1
        replace hx172_2 := (HB.out.cell (World.block_lt_of_cell? w _ hx172_2)).trans hx172_2
        replace hx172_3 := (HB.out.cell (World.block_lt_of_cell? w _ hx172_3)).trans hx172_3
        replace hx172_4 := (HB.out.cell (World.block_lt_of_cell? w _ hx172_4)).trans hx172_4
        replace hx172_5 := (HB.out.cell (World.block_lt_of_cell? w _ hx172_5)).trans hx172_5
        replace hx172_6 := (HB.out.cell (World.block_lt_of_cell? w _ hx172_6)).trans hx172_6
        have HR172_2 := Aside0.mk hi172_2
        have HC172_2 := Aside0.mk hl172_2
        clear hi172_2 hl172_2
        replace p172 := eq_true p172
        replace q172 := eq_true q172
        refine start_ (n := 10) (S := fun w' => w'.cell? (ad171.add ((x5_1).toNat * 7)) = some (.int .i64 ((rd_T55 l0 x5_1).f0)) ∧ w'.cell? ⟨(ad171.add ((x5_1).toNat * 7)).block, (ad171.add ((x5_1).toNat * 7)).off + 1, none⟩ = some (.bool ((rd_T55 l0 x5_1).f1)) ∧ w'.cell? ⟨(ad171.add ((x5_1).toNat * 7)).block, (ad171.add ((x5_1).toNat * 7)).off + 2, none⟩ = some (.slice A171_2 ((rd_T55 l0 x5_1).f2).length c171_2) ∧ w'.cell? ⟨(ad171.add ((x5_1).toNat * 7)).block, (ad171.add ((x5_1).toNat * 7)).off + 3, none⟩ = some (.int .i64 ((rd_T55 l0 x5_1).f3)) ∧ w'.cell? ⟨(ad171.add ((x5_1).toNat * 7)).block, (ad171.add ((x5_1).toNat * 7)).off + 4, none⟩ = some (.int .i64 ((rd_T55 l0 x5_1).f4)) ∧ w'.cell? ⟨(ad171.add ((x5_1).toNat * 7)).block, (ad171.add ((x5_1).toNat * 7)).off + 5, none⟩ = some (.int .i64 ((rd_T55 l0 x5_1).f5)) ∧ w'.cell? ⟨(ad171.add ((x5_1).toNat * 7)).block, (ad171.add ((x5_1).toNat * 7)).off + 6, none⟩ = some (.int .i64 ((rd_T55 l0 x5_1).f6)) ∧ w'.cell? (ad172.add ((x5_1).toNat * 7)) = some (.int .i64 ((rd_T55 l1 x5_1).f0)) ∧ w'.cell? ⟨(ad172.add ((x5_1).toNat * 7)).block, (ad172.add ((x5_1).toNat * 7)).off + 1, none⟩ = some (.bool ((rd_T55 l1 x5_1).f1)) ∧ w'.cell? ⟨(ad172.add ((x5_1).toNat * 7)).block, (ad172.add ((x5_1).toNat * 7)).off + 2, none⟩ = some (.slice A172_2 ((rd_T55 l1 x5_1).f2).length c172_2) ∧ w'.cell? ⟨(ad172.add ((x5_1).toNat * 7)).block, (ad172.add ((x5_1).toNat * 7)).off + 3, none⟩ = some (.int .i64 ((rd_T55 l1 x5_1).f3)) ∧ w'.cell? ⟨(ad172.add ((x5_1).toNat * 7)).block, (ad172.add ((x5_1).toNat * 7)).off + 4, none⟩ = some (.int .i64 ((rd_T55 l1 x5_1).f4)) ∧ w'.cell? ⟨(ad172.add ((x5_1).toNat * 7)).block, (ad172.add ((x5_1).toNat * 7)).off + 5, none⟩ = some (.int .i64 ((rd_T55 l1 x5_1).f5)) ∧ w'.cell? ⟨(ad172.add ((x5_1).toNat * 7)).block, (ad172.add ((x5_1).toNat * 7)).off + 6, none⟩ = some (.int .i64 ((rd_T55 l1 x5_1).f6))) (ds := []) #[false, false, false, false, false, false, false, false, false, false] (by kernel_rfl) rfl rfl ⟨((HB.out.cell (World.block_lt_of_cell? w _ hw171_0)).trans hw171_0), ((HB.out.cell (World.block_lt_of_cell? w _ hw171_1)).trans hw171_1), ((HB.out.cell (World.block_lt_of_cell? w _ hw171_2)).trans hw171_2), ((HB.out.cell (World.block_lt_of_cell? w _ hw171_3)).trans hw171_3), ((HB.out.cell (World.block_lt_of_cell? w _ hw171_4)).trans hw171_4), ((HB.out.cell (World.block_lt_of_cell? w _ hw171_5)).trans hw171_5), ((HB.out.cell (World.block_lt_of_cell? w _ hw171_6)).trans hw171_6), ((HB.out.cell (World.block_lt_of_cell? w _ hw172_0)).trans hw172_0), ((HB.out.cell (World.block_lt_of_cell? w _ hw172_1)).trans hw172_1), ((HB.out.cell (World.block_lt_of_cell? w _ hw172_2)).trans hw172_2), ((HB.out.cell (World.block_lt_of_cell? w _ hw172_3)).trans hw172_3), ((HB.out.cell (World.block_lt_of_cell? w _ hw172_4)).trans hw172_4), ((HB.out.cell (World.block_lt_of_cell? w _ hw172_5)).trans hw172_5), ((HB.out.cell (World.block_lt_of_cell? w _ hw172_6)).trans hw172_6)⟩ (fun hHeld => ?_); refine with_tabW laws_eqRNodeS.tab6 laws_eqRNodeS.bits6 (fun HT_ HW_ => ?_)
        generalize wr.drew = w9 at HB HR171_2 HR172_2 hx171_0 hx171_1 hx171_2 hx171_3 hx171_4 hx171_5 hx171_6 hx172_0 hx172_1 hx172_2 hx172_3 hx172_4 hx172_5 hx172_6 hHeld ⊢
        refine pure_ (i := 0) (N := some 17) (v := ?_) (a' := ?_) #[true, false, false, false, false, false, false, false, false, false] rfl rfl (any_of HT_.out (by kernel_rfl)) (fun _ _ _ h => h) (Or.inl ⟨by rfl, ?_⟩) ?_ ?_
        rotate_left
        ·intro w'
         go_simp
         with_reducible rfl
        rotate_left
        ·simp only [Act.put, List.setIfInBounds_toArray, List.set_cons_zero, List.set_cons_succ, i64_w, i32_w]
         rfl
        refine pure_ (i := 1) (N := some 18) (v := ?_) (a' := ?_) #[true, true, false, false, false, false, false, false, false, false] rfl rfl (any_of HT_.out (by kernel_rfl)) (fun _ _ _ h => h) (Or.inl ⟨by rfl, ?_⟩) ?_ ?_
        rotate_left
        ·intro w'
         go_simp
         with_reducible rfl
        rotate_left
        ·simp only [Act.put, List.setIfInBounds_toArray, List.set_cons_zero, List.set_cons_succ, i64_w, i32_w]
         rfl
        refine pure_ (i := 2) (N := some 19) (v := ?_) (a' := ?_) #[true, true, true, false, false, false, false, false, false, false] rfl rfl (any_of HT_.out (by kernel_rfl)) (fun _ _ _ h => h) (Or.inl ⟨by rfl, ?_⟩) ?_ ?_
        rotate_left
        ·intro w'
         go_simp
         with_reducible rfl
        rotate_left
        ·simp only [Act.put, List.setIfInBounds_toArray, List.set_cons_zero, List.set_cons_succ, i64_w, i32_w]
         rfl
        refine pure_ (i := 4) (N := some 21) (v := ?_) (a' := ?_) #[true, true, true, false, true, false, false, false, false, false] rfl rfl (any_of HT_.out (by kernel_rfl)) (fun _ _ _ h => h) (Or.inl ⟨by rfl, ?_⟩) ?_ ?_
        rotate_left
        ·intro w'
         go_simp
         with_reducible rfl
        rotate_left
        ·simp only [Act.put, List.setIfInBounds_toArray, List.set_cons_zero, List.set_cons_succ, i64_w, i32_w]
         rfl
        refine pure_ (i := 5) (N := some 22) (v := ?_) (a' := ?_) #[true, true, true, false, true, true, false, false, false, false] rfl rfl (any_of HT_.out (by kernel_rfl)) (fun _ _ _ h => h) (Or.inl ⟨by rfl, ?_⟩) ?_ ?_
        rotate_left
        ·intro w'
         go_simp
         with_reducible rfl
        rotate_left
        ·simp only [Act.put, List.setIfInBounds_toArray, List.set_cons_zero, List.set_cons_succ, i64_w, i32_w]
         rfl
        refine pure_ (i := 6) (N := some 23) (v := ?_) (a' := ?_) #[true, true, true, false, true, true, true, false, false, false] rfl rfl (any_of HT_.out (by kernel_rfl)) (fun _ _ _ h => h) (Or.inl ⟨by rfl, ?_⟩) ?_ ?_
        rotate_left
        ·intro w'
         go_simp
         with_reducible rfl
        rotate_left
        ·simp only [Act.put, List.setIfInBounds_toArray, List.set_cons_zero, List.set_cons_succ, i64_w, i32_w]
         rfl
        refine take_ (i := 3) (N := some 20) (v := ?_) (a' := ?_) #[true, true, true, true, true, true, true, false, false, false] rfl rfl (take_ofW HT_.out HW_.out (by kernel_rfl)) (fun _ _ _ h => h) (Or.inl ⟨by rfl, ?_⟩) hHeld ?_ ?_
        rotate_left
        ·rintro w' ⟨s0, s1, s2, s3, s4, s5, s6, s7, s8, s9, s10, s11, s12, s13⟩
         go_simp
         with_reducible rfl
        rotate_left
        ·simp only [Act.put, List.setIfInBounds_toArray, List.set_cons_zero, List.set_cons_succ, i64_w, i32_w]
         rfl
        refine take_ (i := 7) (N := some 24) (v := ?_) (a' := ?_) #[true, true, true, true, true, true, true, true, false, false] rfl rfl (take_ofW HT_.out HW_.out (by kernel_rfl)) (fun _ _ _ h => h) (Or.inl ⟨by rfl, ?_⟩) hHeld ?_ ?_
        rotate_left
        ·rintro w' ⟨s0, s1, s2, s3, s4, s5, s6, s7, s8, s9, s10, s11, s12, s13⟩
         go_simp
         with_reducible rfl
        rotate_left
        ·simp only [Act.put, List.setIfInBounds_toArray, List.set_cons_zero, List.set_cons_succ, i64_w, i32_w]
         rfl
        refine one_ (i := 8) (N := some 25) #[true, true, true, true, true, true, true, true, true, false] rfl rfl (one_of HT_.out (by kernel_rfl)) (by decide) (fun K hK => ?_)
        refine goes_ Tryd.func40 (by kernel_rfl) rfl #[.agg #[.int .i64 ((rd_T55 l0 x5_1).f0), .bool ((rd_T55 l0 x5_1).f1), .slice A171_2 ((rd_T55 l0 x5_1).f2).length c171_2, .int .i64 ((rd_T55 l0 x5_1).f3), .int .i64 ((rd_T55 l0 x5_1).f4), .int .i64 ((rd_T55 l0 x5_1).f5), .int .i64 ((rd_T55 l0 x5_1).f6)], .agg #[.int .i64 ((rd_T55 l1 x5_1).f0), .bool ((rd_T55 l1 x5_1).f1), .slice A172_2 ((rd_T55 l1 x5_1).f2).length c172_2, .int .i64 ((rd_T55 l1 x5_1).f3), .int .i64 ((rd_T55 l1 x5_1).f4), .int .i64 ((rd_T55 l1 x5_1).f5), .int .i64 ((rd_T55 l1 x5_1).f6)]] (by rfl) rfl rfl (by (try simp only [List.map_toArray, List.map_cons, List.map_nil]); first | done | rfl | (simp only [List.length_drop, List.length_take]; rfl)) ?_
        with_reducible refine (laws_eqRNode.calls k1 ((rd_T55 l0 x5_1).f0) ((rd_T55 l0 x5_1).f1) _ _ ((rd_T55 l0 x5_1).f2) ((rd_T55 l0 x5_1).f3) ((rd_T55 l0 x5_1).f4) ((rd_T55 l0 x5_1).f5) ((rd_T55 l0 x5_1).f6) ((rd_T55 l1 x5_1).f0) ((rd_T55 l1 x5_1).f1) _ _ ((rd_T55 l1 x5_1).f2) ((rd_T55 l1 x5_1).f3) ((rd_T55 l1 x5_1).f4) ((rd_T55 l1 x5_1).f5) ((rd_T55 l1 x5_1).f6) true _ ?side1 ?side2 ?side3 ?side4 A7.out).mono ?_
        (case side1 => repeat (first | exact (Kd.C_below HR171_2.out HB.out) | (with_reducible refine Kd.C_alloc ?_ _) | (with_reducible refine Kd.C_drewN ?_ _) | (with_reducible refine Kd.C_drew ?_)))
        (case side2 => exact HC171_2.out)
        (case side3 => repeat (first | exact (Kd.C_below HR172_2.out HB.out) | (with_reducible refine Kd.C_alloc ?_ _) | (with_reducible refine Kd.C_drewN ?_ _) | (with_reducible refine Kd.C_drew ?_)))
        (case side4 => exact HC172_2.out)
        rintro e w10 ⟨rfl, hb⟩
        refine ⟨_, rfl, ?_⟩
        have n0_ := Aside0.mk (below_step (by repeat (first | (with_reducible first | exact HB.out | apply below_alloc | apply pw_below_drewN | apply below_drew1) | exact HB.out)) hb)
        clear HB
        have HB := n0_
        clear n0_
        (try clear hb)
        (try clear hb2)
        (try clear hk)
        (try clear hi)
        refine hK.out _ _ ⟨((HB.out.cell (World.block_lt_of_cell? w _ hw171_0)).trans hw171_0), ((HB.out.cell (World.block_lt_of_cell? w _ hw171_1)).trans hw171_1), ((HB.out.cell (World.block_lt_of_cell? w _ hw171_2)).trans hw171_2), ((HB.out.cell (World.block_lt_of_cell? w _ hw171_3)).trans hw171_3), ((HB.out.cell (World.block_lt_of_cell? w _ hw171_4)).trans hw171_4), ((HB.out.cell (World.block_lt_of_cell? w _ hw171_5)).trans hw171_5), ((HB.out.cell (World.block_lt_of_cell? w _ hw171_6)).trans hw171_6), ((HB.out.cell (World.block_lt_of_cell? w _ hw172_0)).trans hw172_0), ((HB.out.cell (World.block_lt_of_cell? w _ hw172_1)).trans hw172_1), ((HB.out.cell (World.block_lt_of_cell? w _ hw172_2)).trans hw172_2), ((HB.out.cell (World.block_lt_of_cell? w _ hw172_3)).trans hw172_3), ((HB.out.cell (World.block_lt_of_cell? w _ hw172_4)).trans hw172_4), ((HB.out.cell (World.block_lt_of_cell? w _ hw172_5)).trans hw172_5), ((HB.out.cell (World.block_lt_of_cell? w _ hw172_6)).trans hw172_6)⟩ (fun hHeld => ?_)
        clear hK K
        refine norm_ (a' := ?_) ?_ ?_
        rotate_left
        ·show Act.put _ (some 25) _ = _
         simp only [Act.put, List.setIfInBounds_toArray, List.set_cons_zero, List.set_cons_succ, i64_w, i32_w]
         rfl
        refine pure_ (i := 9) (N := some 26) (v := ?_) (a' := ?_) #[true, true, true, true, true, true, true, true, true, true] rfl rfl (any_of HT_.out (by kernel_rfl)) (fun _ _ _ h => h) (Or.inl ⟨by rfl, ?_⟩) ?_ ?_
        rotate_left
        ·intro w'
         go_simp
         with_reducible rfl
        rotate_left
        ·simp only [Act.put, List.setIfInBounds_toArray, List.set_cons_zero, List.set_cons_succ, i64_w, i32_w]
         rfl
        refine done_ (done_of HT_.out (by kernel_rfl)) ?_
        try go_wp2
        go_roundg k1
        case measure => have := HK1.out; omega
        case rel => exact ⟨(wrap64 (x5_1 + 1)), (by first | rfl | (simp; done) | (simp [*]; done)), H', ⟨by have := HK1.out; omega⟩, ⟨by repeat (first | (with_reducible first | exact HB.out | apply below_alloc | apply pw_below_drewN | apply below_drew1) | exact HB.out)⟩⟩
       ·replace c8 := Bool.eq_false_iff.mpr c8
        subst c8
        have H1 : (some false) = some r := by rw [if_neg (show ¬ (false = true) by decide)] at H; exact H
        clear H
        have H := H1
        clear H1
        obtain rfl := Option.some.inj H
        try go_wp2
        have n0_ := Aside0.mk (below_drew1 HB.out)
        clear HB
        have HB := n0_
        clear n0_
        have p171 : 0 ≤ (x5_1 : Int) := of_decide_eq_true (by first | (with_reducible assumption) | assumption)
        have q171 : x5_1 < (l0.length : Int) := of_decide_eq_true (by first | (with_reducible assumption) | assumption)
        obtain ⟨ad171, A171_2, c171_2, e171, hx171_0, hx171_1, hx171_2, hx171_3, hx171_4, hx171_5, hx171_6, hl171_2, hi171_2⟩ := at_T55 HR0.out x5_1 p171 q171
        have hw171_6 := hx171_6
        have hw171_5 := hx171_5
        have hw171_4 := hx171_4
        have hw171_3 := hx171_3
        have hw171_2 := hx171_2
        have hw171_1 := hx171_1
        have hw171_0 := hx171_0
        cases e171
        replace hx171_0 := (HB.out.cell (World.block_lt_of_cell? w _ hx171_0)).trans hx171_0
        replace hx171_1 := (HB.out.cell (World.block_lt_of_cell? w _ hx171_1)).trans hx171_1
        replace hx171_2 := (HB.out.cell (World.block_lt_of_cell? w _ hx171_2)).trans hx171_2
        replace hx171_3 := (HB.out.cell (World.block_lt_of_cell? w _ hx171_3)).trans hx171_3
        replace hx171_4 := (HB.out.cell (World.block_lt_of_cell? w _ hx171_4)).trans hx171_4
        replace hx171_5 := (HB.out.cell (World.block_lt_of_cell? w _ hx171_5)).trans hx171_5
        replace hx171_6 := (HB.out.cell (World.block_lt_of_cell? w _ hx171_6)).trans hx171_6
        have HR171_2 := Aside0.mk hi171_2
        have HC171_2 := Aside0.mk hl171_2
        clear hi171_2 hl171_2
        replace p171 := eq_true p171
        replace q171 := eq_true q171
        have p172 : 0 ≤ (x5_1 : Int) := of_decide_eq_true (by first | (with_reducible assumption) | assumption)
        have q172 : x5_1 < (l1.length : Int) := of_decide_eq_true (by first | (with_reducible assumption) | assumption)
        obtain ⟨ad172, A172_2, c172_2, e172, hx172_0, hx172_1, hx172_2, hx172_3, hx172_4, hx172_5, hx172_6, hl172_2, hi172_2⟩ := at_T55 HR1.out x5_1 p172 q172
        have hw172_6 := hx172_6
        have hw172_5 := hx172_5
        have hw172_4 := hx172_4
        have hw172_3 := hx172_3
        have hw172_2 := hx172_2
        have hw172_1 := hx172_1
        have hw172_0 := hx172_0
        cases e172
        replace hx172_0 := (HB.out.cell (World.block_lt_of_cell? w _ hx172_0)).trans hx172_0
        replace hx172_1 := (HB.out.cell (World.block_lt_of_cell? w _ hx172_1)).trans hx172_1
        replace hx172_2 := (HB.out.cell (World.block_lt_of_cell? w _ hx172_2)).trans hx172_2
        replace hx172_3 := (HB.out.cell (World.block_lt_of_cell? w _ hx172_3)).trans hx172_3
        replace hx172_4 := (HB.out.cell (World.block_lt_of_cell? w _ hx172_4)).trans hx172_4
        replace hx172_5 := (HB.out.cell (World.block_lt_of_cell? w _ hx172_5)).trans hx172_5
        replace hx172_6 := (HB.out.cell (World.block_lt_of_cell? w _ hx172_6)).trans hx172_6
        have HR172_2 := Aside0.mk hi172_2
        have HC172_2 := Aside0.mk hl172_2
        clear hi172_2 hl172_2
        replace p172 := eq_true p172
        replace q172 := eq_true q172
        refine start_ (n := 10) (S := fun w' => w'.cell? (ad171.add ((x5_1).toNat * 7)) = some (.int .i64 ((rd_T55 l0 x5_1).f0)) ∧ w'.cell? ⟨(ad171.add ((x5_1).toNat * 7)).block, (ad171.add ((x5_1).toNat * 7)).off + 1, none⟩ = some (.bool ((rd_T55 l0 x5_1).f1)) ∧ w'.cell? ⟨(ad171.add ((x5_1).toNat * 7)).block, (ad171.add ((x5_1).toNat * 7)).off + 2, none⟩ = some (.slice A171_2 ((rd_T55 l0 x5_1).f2).length c171_2) ∧ w'.cell? ⟨(ad171.add ((x5_1).toNat * 7)).block, (ad171.add ((x5_1).toNat * 7)).off + 3, none⟩ = some (.int .i64 ((rd_T55 l0 x5_1).f3)) ∧ w'.cell? ⟨(ad171.add ((x5_1).toNat * 7)).block, (ad171.add ((x5_1).toNat * 7)).off + 4, none⟩ = some (.int .i64 ((rd_T55 l0 x5_1).f4)) ∧ w'.cell? ⟨(ad171.add ((x5_1).toNat * 7)).block, (ad171.add ((x5_1).toNat * 7)).off + 5, none⟩ = some (.int .i64 ((rd_T55 l0 x5_1).f5)) ∧ w'.cell? ⟨(ad171.add ((x5_1).toNat * 7)).block, (ad171.add ((x5_1).toNat * 7)).off + 6, none⟩ = some (.int .i64 ((rd_T55 l0 x5_1).f6)) ∧ w'.cell? (ad172.add ((x5_1).toNat * 7)) = some (.int .i64 ((rd_T55 l1 x5_1).f0)) ∧ w'.cell? ⟨(ad172.add ((x5_1).toNat * 7)).block, (ad172.add ((x5_1).toNat * 7)).off + 1, none⟩ = some (.bool ((rd_T55 l1 x5_1).f1)) ∧ w'.cell? ⟨(ad172.add ((x5_1).toNat * 7)).block, (ad172.add ((x5_1).toNat * 7)).off + 2, none⟩ = some (.slice A172_2 ((rd_T55 l1 x5_1).f2).length c172_2) ∧ w'.cell? ⟨(ad172.add ((x5_1).toNat * 7)).block, (ad172.add ((x5_1).toNat * 7)).off + 3, none⟩ = some (.int .i64 ((rd_T55 l1 x5_1).f3)) ∧ w'.cell? ⟨(ad172.add ((x5_1).toNat * 7)).block, (ad172.add ((x5_1).toNat * 7)).off + 4, none⟩ = some (.int .i64 ((rd_T55 l1 x5_1).f4)) ∧ w'.cell? ⟨(ad172.add ((x5_1).toNat * 7)).block, (ad172.add ((x5_1).toNat * 7)).off + 5, none⟩ = some (.int .i64 ((rd_T55 l1 x5_1).f5)) ∧ w'.cell? ⟨(ad172.add ((x5_1).toNat * 7)).block, (ad172.add ((x5_1).toNat * 7)).off + 6, none⟩ = some (.int .i64 ((rd_T55 l1 x5_1).f6))) (ds := []) #[false, false, false, false, false, false, false, false, false, false] (by kernel_rfl) rfl rfl ⟨((HB.out.cell (World.block_lt_of_cell? w _ hw171_0)).trans hw171_0), ((HB.out.cell (World.block_lt_of_cell? w _ hw171_1)).trans hw171_1), ((HB.out.cell (World.block_lt_of_cell? w _ hw171_2)).trans hw171_2), ((HB.out.cell (World.block_lt_of_cell? w _ hw171_3)).trans hw171_3), ((HB.out.cell (World.block_lt_of_cell? w _ hw171_4)).trans hw171_4), ((HB.out.cell (World.block_lt_of_cell? w _ hw171_5)).trans hw171_5), ((HB.out.cell (World.block_lt_of_cell? w _ hw171_6)).trans hw171_6), ((HB.out.cell (World.block_lt_of_cell? w _ hw172_0)).trans hw172_0), ((HB.out.cell (World.block_lt_of_cell? w _ hw172_1)).trans hw172_1), ((HB.out.cell (World.block_lt_of_cell? w _ hw172_2)).trans hw172_2), ((HB.out.cell (World.block_lt_of_cell? w _ hw172_3)).trans hw172_3), ((HB.out.cell (World.block_lt_of_cell? w _ hw172_4)).trans hw172_4), ((HB.out.cell (World.block_lt_of_cell? w _ hw172_5)).trans hw172_5), ((HB.out.cell (World.block_lt_of_cell? w _ hw172_6)).trans hw172_6)⟩ (fun hHeld => ?_); refine with_tabW laws_eqRNodeS.tab6 laws_eqRNodeS.bits6 (fun HT_ HW_ => ?_)
        generalize wr.drew = w11 at HB HR171_2 HR172_2 hx171_0 hx171_1 hx171_2 hx171_3 hx171_4 hx171_5 hx171_6 hx172_0 hx172_1 hx172_2 hx172_3 hx172_4 hx172_5 hx172_6 hHeld ⊢
        refine pure_ (i := 0) (N := some 17) (v := ?_) (a' := ?_) #[true, false, false, false, false, false, false, false, false, false] rfl rfl (any_of HT_.out (by kernel_rfl)) (fun _ _ _ h => h) (Or.inl ⟨by rfl, ?_⟩) ?_ ?_
        rotate_left
        ·intro w'
         go_simp
         with_reducible rfl
        rotate_left
        ·simp only [Act.put, List.setIfInBounds_toArray, List.set_cons_zero, List.set_cons_succ, i64_w, i32_w]
         rfl
        refine pure_ (i := 1) (N := some 18) (v := ?_) (a' := ?_) #[true, true, false, false, false, false, false, false, false, false] rfl rfl (any_of HT_.out (by kernel_rfl)) (fun _ _ _ h => h) (Or.inl ⟨by rfl, ?_⟩) ?_ ?_
        rotate_left
        ·intro w'
         go_simp
         with_reducible rfl
        rotate_left
        ·simp only [Act.put, List.setIfInBounds_toArray, List.set_cons_zero, List.set_cons_succ, i64_w, i32_w]
         rfl
        refine pure_ (i := 2) (N := some 19) (v := ?_) (a' := ?_) #[true, true, true, false, false, false, false, false, false, false] rfl rfl (any_of HT_.out (by kernel_rfl)) (fun _ _ _ h => h) (Or.inl ⟨by rfl, ?_⟩) ?_ ?_
        rotate_left
        ·intro w'
         go_simp
         with_reducible rfl
        rotate_left
        ·simp only [Act.put, List.setIfInBounds_toArray, List.set_cons_zero, List.set_cons_succ, i64_w, i32_w]
         rfl
        refine pure_ (i := 4) (N := some 21) (v := ?_) (a' := ?_) #[true, true, true, false, true, false, false, false, false, false] rfl rfl (any_of HT_.out (by kernel_rfl)) (fun _ _ _ h => h) (Or.inl ⟨by rfl, ?_⟩) ?_ ?_
        rotate_left
        ·intro w'
         go_simp
         with_reducible rfl
        rotate_left
        ·simp only [Act.put, List.setIfInBounds_toArray, List.set_cons_zero, List.set_cons_succ, i64_w, i32_w]
         rfl
        refine pure_ (i := 5) (N := some 22) (v := ?_) (a' := ?_) #[true, true, true, false, true, true, false, false, false, false] rfl rfl (any_of HT_.out (by kernel_rfl)) (fun _ _ _ h => h) (Or.inl ⟨by rfl, ?_⟩) ?_ ?_
        rotate_left
        ·intro w'
         go_simp
         with_reducible rfl
        rotate_left
        ·simp only [Act.put, List.setIfInBounds_toArray, List.set_cons_zero, List.set_cons_succ, i64_w, i32_w]
         rfl
        refine pure_ (i := 6) (N := some 23) (v := ?_) (a' := ?_) #[true, true, true, false, true, true, true, false, false, false] rfl rfl (any_of HT_.out (by kernel_rfl)) (fun _ _ _ h => h) (Or.inl ⟨by rfl, ?_⟩) ?_ ?_
        rotate_left
        ·intro w'
         go_simp
         with_reducible rfl
        rotate_left
        ·simp only [Act.put, List.setIfInBounds_toArray, List.set_cons_zero, List.set_cons_succ, i64_w, i32_w]
         rfl
        refine take_ (i := 3) (N := some 20) (v := ?_) (a' := ?_) #[true, true, true, true, true, true, true, false, false, false] rfl rfl (take_ofW HT_.out HW_.out (by kernel_rfl)) (fun _ _ _ h => h) (Or.inl ⟨by rfl, ?_⟩) hHeld ?_ ?_
        rotate_left
        ·rintro w' ⟨s0, s1, s2, s3, s4, s5, s6, s7, s8, s9, s10, s11, s12, s13⟩
         go_simp
         with_reducible rfl
        rotate_left
        ·simp only [Act.put, List.setIfInBounds_toArray, List.set_cons_zero, List.set_cons_succ, i64_w, i32_w]
         rfl
        refine take_ (i := 7) (N := some 24) (v := ?_) (a' := ?_) #[true, true, true, true, true, true, true, true, false, false] rfl rfl (take_ofW HT_.out HW_.out (by kernel_rfl)) (fun _ _ _ h => h) (Or.inl ⟨by rfl, ?_⟩) hHeld ?_ ?_
        rotate_left
        ·rintro w' ⟨s0, s1, s2, s3, s4, s5, s6, s7, s8, s9, s10, s11, s12, s13⟩
         go_simp
         with_reducible rfl
        rotate_left
        ·simp only [Act.put, List.setIfInBounds_toArray, List.set_cons_zero, List.set_cons_succ, i64_w, i32_w]
         rfl
        refine one_ (i := 8) (N := some 25) #[true, true, true, true, true, true, true, true, true, false] rfl rfl (one_of HT_.out (by kernel_rfl)) (by decide) (fun K hK => ?_)
        refine goes_ Tryd.func40 (by kernel_rfl) rfl #[.agg #[.int .i64 ((rd_T55 l0 x5_1).f0), .bool ((rd_T55 l0 x5_1).f1), .slice A171_2 ((rd_T55 l0 x5_1).f2).length c171_2, .int .i64 ((rd_T55 l0 x5_1).f3), .int .i64 ((rd_T55 l0 x5_1).f4), .int .i64 ((rd_T55 l0 x5_1).f5), .int .i64 ((rd_T55 l0 x5_1).f6)], .agg #[.int .i64 ((rd_T55 l1 x5_1).f0), .bool ((rd_T55 l1 x5_1).f1), .slice A172_2 ((rd_T55 l1 x5_1).f2).length c172_2, .int .i64 ((rd_T55 l1 x5_1).f3), .int .i64 ((rd_T55 l1 x5_1).f4), .int .i64 ((rd_T55 l1 x5_1).f5), .int .i64 ((rd_T55 l1 x5_1).f6)]] (by rfl) rfl rfl (by (try simp only [List.map_toArray, List.map_cons, List.map_nil]); first | done | rfl | (simp only [List.length_drop, List.length_take]; rfl)) ?_
        with_reducible refine (laws_eqRNode.calls k1 ((rd_T55 l0 x5_1).f0) ((rd_T55 l0 x5_1).f1) _ _ ((rd_T55 l0 x5_1).f2) ((rd_T55 l0 x5_1).f3) ((rd_T55 l0 x5_1).f4) ((rd_T55 l0 x5_1).f5) ((rd_T55 l0 x5_1).f6) ((rd_T55 l1 x5_1).f0) ((rd_T55 l1 x5_1).f1) _ _ ((rd_T55 l1 x5_1).f2) ((rd_T55 l1 x5_1).f3) ((rd_T55 l1 x5_1).f4) ((rd_T55 l1 x5_1).f5) ((rd_T55 l1 x5_1).f6) false _ ?side1 ?side2 ?side3 ?side4 A7.out).mono ?_
        (case side1 => repeat (first | exact (Kd.C_below HR171_2.out HB.out) | (with_reducible refine Kd.C_alloc ?_ _) | (with_reducible refine Kd.C_drewN ?_ _) | (with_reducible refine Kd.C_drew ?_)))
        (case side2 => exact HC171_2.out)
        (case side3 => repeat (first | exact (Kd.C_below HR172_2.out HB.out) | (with_reducible refine Kd.C_alloc ?_ _) | (with_reducible refine Kd.C_drewN ?_ _) | (with_reducible refine Kd.C_drew ?_)))
        (case side4 => exact HC172_2.out)
        rintro e w12 ⟨rfl, hb⟩
        refine ⟨_, rfl, ?_⟩
        have n0_ := Aside0.mk (below_step (by repeat (first | (with_reducible first | exact HB.out | apply below_alloc | apply pw_below_drewN | apply below_drew1) | exact HB.out)) hb)
        clear HB
        have HB := n0_
        clear n0_
        (try clear hb)
        (try clear hb2)
        (try clear hk)
        (try clear hi)
        refine hK.out _ _ ⟨((HB.out.cell (World.block_lt_of_cell? w _ hw171_0)).trans hw171_0), ((HB.out.cell (World.block_lt_of_cell? w _ hw171_1)).trans hw171_1), ((HB.out.cell (World.block_lt_of_cell? w _ hw171_2)).trans hw171_2), ((HB.out.cell (World.block_lt_of_cell? w _ hw171_3)).trans hw171_3), ((HB.out.cell (World.block_lt_of_cell? w _ hw171_4)).trans hw171_4), ((HB.out.cell (World.block_lt_of_cell? w _ hw171_5)).trans hw171_5), ((HB.out.cell (World.block_lt_of_cell? w _ hw171_6)).trans hw171_6), ((HB.out.cell (World.block_lt_of_cell? w _ hw172_0)).trans hw172_0), ((HB.out.cell (World.block_lt_of_cell? w _ hw172_1)).trans hw172_1), ((HB.out.cell (World.block_lt_of_cell? w _ hw172_2)).trans hw172_2), ((HB.out.cell (World.block_lt_of_cell? w _ hw172_3)).trans hw172_3), ((HB.out.cell (World.block_lt_of_cell? w _ hw172_4)).trans hw172_4), ((HB.out.cell (World.block_lt_of_cell? w _ hw172_5)).trans hw172_5), ((HB.out.cell (World.block_lt_of_cell? w _ hw172_6)).trans hw172_6)⟩ (fun hHeld => ?_)
        clear hK K
        refine norm_ (a' := ?_) ?_ ?_
        rotate_left
        ·show Act.put _ (some 25) _ = _
         simp only [Act.put, List.setIfInBounds_toArray, List.set_cons_zero, List.set_cons_succ, i64_w, i32_w]
         rfl
        refine pure_ (i := 9) (N := some 26) (v := ?_) (a' := ?_) #[true, true, true, true, true, true, true, true, true, true] rfl rfl (any_of HT_.out (by kernel_rfl)) (fun _ _ _ h => h) (Or.inl ⟨by rfl, ?_⟩) ?_ ?_
        rotate_left
        ·intro w'
         go_simp
         with_reducible rfl
        rotate_left
        ·simp only [Act.put, List.setIfInBounds_toArray, List.set_cons_zero, List.set_cons_succ, i64_w, i32_w]
         rfl
        refine done_ (done_of HT_.out (by kernel_rfl)) ?_
        try go_wp2
        go_ret
        exact ⟨by first | rfl | (simp [*] <;> rfl), by repeat (first | (with_reducible first | exact HB.out | apply below_alloc | apply pw_below_drewN | apply below_drew1) | exact HB.out)⟩
      ·rw [if_neg c6] at H
       exact absurd H (by simp)
     ·rw [if_neg c5] at H
      exact absurd H (by simp)
    ·rw [if_neg c4] at H
     have c4b0 : decide (x5_1 < (l0.length : Int)) = false := decide_eq_false c4
     clear c4
     obtain rfl := Option.some.inj H
     go_wp2
     go_ret
     exact ⟨by first | rfl | (simp [*] <;> rfl), by repeat (first | (with_reducible first | exact HB.out | apply below_alloc | apply pw_below_drewN | apply below_drew1) | exact HB.out)⟩
 ·rw [if_neg c3] at H
  have c3b0 : ((l0.length : Int) == (l1.length : Int)) = false := beq_eq_false_iff_ne.mpr c3
  have c3b1 : ((l0.length : Int) != (l1.length : Int)) = true := bne_iff_ne.mpr c3
  have c3b2 : (l0.length == l1.length) = false := by first | simpa using c3 | (simp at c3 ⊢; omega)
  obtain rfl := Option.some.inj H
  go_enter Tryd.func24, Tryd.ntmps24
  go_wp2
  go_ret
  exact ⟨by first | rfl | (simp [*] <;> rfl), by repeat (first | (with_reducible first | exact HB.out | apply below_alloc | apply pw_below_drewN | apply below_drew1) | exact HB.out)⟩

/-! ### laws_markRangeS: function 41 -/
def laws_markRangeS.l0 : Nat → List (S57) → Int → Int → Option (Int × (List (S57)))
 | 0, _, _, _ => none
 | k + 1, x0, x1, x5 => if x5 < (x0.length : Int) then (if 0 ≤ x5 then ((some (x0.set (x5 : Int).toNat (⟨x1, (rd_T57 x0 x5).f1⟩ : S57) : List (S57))).bind fun y174 => (laws_markRangeS.l0 k (y174.set (x5 : Int).toNat (⟨(rd_T57 y174 x5).f0, wrap64 (x1 + 1)⟩ : S57)) (wrap64 ((wrap64 (x1 + 1)) + 1)) (wrap64 (x5 + 1)))) else (none)) else (some (x1, x0))
def laws_markRangeS.f (k : Nat) (l0 : List (S57)) (a1 : Int) : Option (Int × (List (S57))) := laws_markRangeS.l0 k l0 a1 0
theorem laws_markRangeS.mono_l : ∀ k, (∀ y0 y1 y2, LeO (laws_markRangeS.l0 k y0 y1 y2) (laws_markRangeS.l0 (k + 1) y0 y1 y2))
 | 0 => fun _ _ _ r h => by simp [laws_markRangeS.l0] at h
 | k + 1 => by
  have ih0 := laws_markRangeS.mono_l k
  ·intro y0 y1 y2
   unfold laws_markRangeS.l0
   repeat' first
   | (with_reducible exact ih0 _ _ _)
   | (with_reducible exact LeO.refl _)
   | (with_reducible exact LeO.none _)
   | (with_reducible refine LeO.ite ?_ ?_)
   | (with_reducible refine LeO.bind ?_ (fun _ => ?_))
   | exact ih0 _ _ _
   | exact LeO.none _
   | refine LeO.ite ?_ ?_
   | refine LeO.bind ?_ (fun _ => ?_)
theorem laws_markRangeS.mono : ∀ a0 a1 k, LeO (laws_markRangeS.f k a0 a1) (laws_markRangeS.f (k + 1) a0 a1) := by
 intro a0 a1 k
 have ih0 := laws_markRangeS.mono_l k
 unfold laws_markRangeS.f
 repeat' first
   | (with_reducible exact ih0 _ _ _)
   | (with_reducible exact LeO.refl _)
   | (with_reducible exact LeO.none _)
   | (with_reducible refine LeO.ite ?_ ?_)
   | (with_reducible refine LeO.bind ?_ (fun _ => ?_))
   | exact ih0 _ _ _
   | exact LeO.none _
   | refine LeO.ite ?_ ?_
   | refine LeO.bind ?_ (fun _ => ?_)
set_option maxHeartbeats 8000000 in
set_option maxRecDepth 100000 in
theorem laws_markRangeS.calls (k : Nat) (P0_ : Nat → Prop) (u9000_ : Value) (l0 : List (S57)) (a1 : Int) (r1 : Int) (r2 : List (S57)) (w0 w : World) (hB : Below w0.heap.size w0 w) (ho0 : Kd.R k57 57 w w0.heap.size P0_ u9000_ l0) (h : laws_markRangeS.f k l0 a1 = some (r1, r2)) :
  Calls Tryd.prog 41 #[u9000_, .int .i64 a1] w fun e w' => e = .returned (.int .i64 r1) ∧ Kd.R k57 57 w' w0.heap.size (fun k_ => (P0_ k_ ∨ w.heap.size ≤ k_)) u9000_ r2 ∧ Below w0.heap.size w0 w' ∧ Kept w w' (fun k_ => P0_ k_) := by
 have HO0 := Aside0.mk (show Kd.R k57 57 w w0.heap.size (fun k_ => (P0_ k_ ∨ w.heap.size ≤ k_)) u9000_ l0 from Kd.R_mono ho0 (fun k_ hk => (.inl hk)))
 have HK := Aside0.mk (Kept.refl w (fun k_ => P0_ k_))
 have HW0 := Aside0.mk hB.size
 have HB := Aside0.mk hB
 clear hB
 have H : (laws_markRangeS.l0 k l0 a1 0) = some (r1, r2) := h
 clear h
 have H' := Aside0.mk H
 clear H
 go_enter Tryd.func41, Tryd.ntmps41
 go_wp2
 go_loopg [1, 5] k (fun kq v1 v5 w' => ∃ (x0_1 : List (S57)) (x1_1 : Int) (x5_1 : Int), v1 = .int .i64 x1_1 ∧ v5 = .int .i64 x5_1 ∧ Aside0 (laws_markRangeS.l0 kq x0_1 x1_1 x5_1 = some (r1, r2)) ∧ Aside0 (kq ≤ k) ∧ Aside0 (Kd.R k57 57 w' w0.heap.size (fun k_ => (P0_ k_ ∨ w.heap.size ≤ k_)) u9000_ x0_1) ∧ Aside0 (Kept w w' (fun k_ => P0_ k_)) ∧ Aside0 (Below w0.heap.size w0 w'))
 case atStart => exact ⟨(l0), (a1), (0), (by first | rfl | (simp; done) | (simp [*]; done)), (by first | rfl | (simp; done) | (simp [*]; done)), H', ⟨Nat.le_refl _⟩, ⟨by (with_reducible repeat (first | apply Kd.R_alloc | apply Kd.R_drewN | apply Kd.R_drew)); exact HO0.out⟩, ⟨by repeat (first | (with_reducible first | exact HK.out | apply Kept.alloc | apply Kept.drewN | apply Kept.drew) | exact HK.out)⟩, ⟨by repeat (first | (with_reducible first | exact HB.out | apply below_alloc | apply pw_below_drewN | apply below_drew1) | exact HB.out)⟩⟩
 case round =>
  clear H'
  try clear p2
  obtain ⟨x0_1, x1_1, x5_1, rfl, rfl, HA, HK1, HO_0, HK, HB⟩ := hrel
  cases gk with
  | zero => exact absurd HA.out (by simp [laws_markRangeS.l0])
  | succ k1 =>
   have H := HA.out
   clear HA
   simp only [laws_markRangeS.l0] at H
   by_cases c3 : x5_1 < (x0_1.length : Int)
   ·rw [if_pos c3] at H
    have c3b0 : decide (x5_1 < (x0_1.length : Int)) = true := decide_eq_true c3
    clear c3
    by_cases c4 : 0 ≤ x5_1
    ·rw [if_pos c4] at H
     have c4b0 : decide (0 ≤ x5_1) = true := decide_eq_true c4
     clear c4
     obtain ⟨y174, hy174⟩ : ∃ y_ : List (S57), y_ = (x0_1.set (x5_1 : Int).toNat (⟨x1_1, (rd_T57 x0_1 x5_1).f1⟩ : S57)) := ⟨_, rfl⟩
     replace H : (laws_markRangeS.l0 k1 (y174.set (x5_1 : Int).toNat (⟨(rd_T57 y174 x5_1).f0, wrap64 (x1_1 + 1)⟩ : S57)) (wrap64 ((wrap64 (x1_1 + 1)) + 1)) (wrap64 (x5_1 + 1))) = some (r1, r2) := by first | (rw [hy174]; with_reducible exact H) | (have H2_ := (Option.bind_some _ _).symm.trans H; rw [hy174]; with_reducible exact H2_) | (have H2_ := (Option.bind_some _ _).symm.trans H; with_reducible exact H2_) | with_reducible exact H | (rw [hy174]; exact H) | exact H
     have Ny174 := Aside0.mk hy174
     clear hy174
     obtain ⟨y175, hy175⟩ : ∃ y_ : List (S57), y_ = (y174.set (x5_1 : Int).toNat (⟨(rd_T57 y174 x5_1).f0, wrap64 (x1_1 + 1)⟩ : S57)) := ⟨_, rfl⟩
     replace H : (laws_markRangeS.l0 k1 y175 (wrap64 ((wrap64 (x1_1 + 1)) + 1)) (wrap64 (x5_1 + 1))) = some (r1, r2) := by first | (rw [hy175]; with_reducible exact H) | (have H2_ := (Option.bind_some _ _).symm.trans H; rw [hy175]; with_reducible exact H2_) | (have H2_ := (Option.bind_some _ _).symm.trans H; with_reducible exact H2_) | with_reducible exact H | (rw [hy175]; exact H) | exact H
     have Ny175 := Aside0.mk hy175
     clear hy175
     have H' := Aside0.mk H
     clear H
     obtain ⟨Ao7, co7, eo7⟩ := Kd.R_slice HO_0.out
     subst eo7
     have p5 : 0 ≤ (x5_1 : Int) := of_decide_eq_true (by first | (with_reducible assumption) | assumption)
     have q5 : (x5_1 : Int) < ((x0_1.length : Int) : Int) := of_decide_eq_true (by first | (with_reducible assumption) | assumption)
     obtain ⟨go5, co5, eo5, gb5, gl5, cl5, HG5⟩ := Kd.R_form HO_0.out (by omega)
     (first | cases eo5 | (injection eo5 with ea_ en_ ec_; (first | subst ea_ | (injection ea_ with ea_; subst ea_)); subst ec_; clear en_))
     have GB5 := Aside0.mk gb5
     have GG5 := Aside0.mk HG5
     clear gb5 gl5 HG5
     have HMgo5 := Aside0.mk (show (P0_ go5 ∨ w.heap.size ≤ go5) from (HO_0.out.1 _ rfl))
     obtain ⟨ce5, hcl5, hM5, hcc5, hfr5⟩ := Kd.R_elem HO_0.out z57 (x5_1 : Int) p5 q5
     obtain rfl := k57_openM hM5
     have hx5_0 : wr.cell? ⟨go5, (x5_1 : Int).toNat * 2, none⟩ = some (.int .i64 ((rd_T57 x0_1 x5_1).f0)) := hcc5 0 _ rfl
     have hx5_1 : wr.cell? ⟨go5, (x5_1 : Int).toNat * 2 + 1, none⟩ = some (.int .i64 ((rd_T57 x0_1 x5_1).f1)) := hcc5 1 _ rfl
     have hf5_0 : wr.frozen? ⟨go5, (x5_1 : Int).toNat * 2, none⟩ = false := hfr5 0
     have hf5_1 : wr.frozen? ⟨go5, (x5_1 : Int).toNat * 2 + 1, none⟩ = false := hfr5 1
     clear hcl5 hcc5 hfr5 hM5
     replace p5 := eq_true p5
     replace q5 := eq_true q5
     have HX8 := Aside0.mk (show Kd.R k57 57 wr w0.heap.size (fun k_ => (P0_ k_ ∨ w.heap.size ≤ k_)) (.slice (some ⟨go5, 0, none⟩) x0_1.length co7) x0_1 from (by (with_reducible repeat (first | apply Kd.R_alloc | apply Kd.R_drewN | apply Kd.R_drew)); exact HO_0.out))
     obtain ⟨ce8, hcl8, hM8, hcc8, hfr8⟩ := Kd.R_elem HX8.out z57 (x5_1 : Int) (of_decide_eq_true (by first | (with_reducible assumption) | assumption)) (by have h_ : (x5_1 : Int) < ((x0_1.length : Int) : Int) := of_decide_eq_true (by first | (with_reducible assumption) | assumption); first | exact h_ | (have e_ := (Kd.R_reads' HO_0.out).1; omega) | simpa using h_)
     obtain rfl := k57_openM hM8
     have HP8 := Kd.R_seg HX8.out (x5_1 : Int) (of_decide_eq_true (by first | (with_reducible assumption) | assumption)) (by have h_ : (x5_1 : Int) < ((x0_1.length : Int) : Int) := of_decide_eq_true (by first | (with_reducible assumption) | assumption); first | exact h_ | (have e_ := (Kd.R_reads' HO_0.out).1; omega) | simpa using h_) (seg := [.int .i64 x1_1]) (j := 0) hcl8 hcc8 (show 1 ≤ 2 from by decide) (x' := (⟨x1_1, (rd_T57 x0_1 x5_1).f1⟩ : S57)) (k57_mkM _ _ _ (⟨x1_1, (rd_T57 x0_1 x5_1).f1⟩ : S57) ) (fun _ hk => hk)
     have hx8_0 := hcc8 0 _ rfl
     (try simp only [show (k57).sz = 2 from rfl, Nat.mul_one, Nat.add_zero] at hx8_0)
     have hf8_0 := hfr8 0
     (try simp only [show (k57).sz = 2 from rfl, Nat.mul_one, Nat.add_zero] at hf8_0)
     clear hcl8 hcc8 hfr8 hM8
     go_wp2_with (first | ((with_reducible refine gate_store (t := 2) (p := 16) rfl ?_); refine store_event (t := 2) (p := 16) (v := ?vo_w9) (w1 := (wr.setCell ⟨go5, (x5_1 : Int).toNat * 2, none⟩ (.int .i64 x1_1))) ?hg ?ho ?hn ?hr ?_; (case ho => rfl); (case hg => rfl); (case hn => rfl); (case hr => first | (go_simp; done) | (go_simp; rfl)); intro w9 hw; have hg : wr.grownBy w9 (some go5) := (by rw [hw]; exact HP8.2); have hp_ : Kd.R k57 57 w9 w0.heap.size (fun k_ => (P0_ k_ ∨ w.heap.size ≤ k_)) (.slice (some ⟨go5, 0, none⟩) x0_1.length co7) y174 := (by rw [hw, Ny174.out]; exact HP8.1); clear HP8; have n0_ := Aside0.mk (hp_); have n1_ := Aside0.mk ((by rw [hw]; exact below_set (HB.out) GB5.out : Below w0.heap.size w0 w9)); have n2_ := Aside0.mk (Kept.of_grown (S := (fun k_ => P0_ k_)) hg (by repeat (first | (with_reducible first | exact HK.out | apply Kept.alloc | apply Kept.drewN | apply Kept.drew) | exact HK.out)) (fun k_ e_ => (HO_0.out.1 k_ e_))); clear HO_0; clear HB; clear HK; have HO_0 := n0_; have HB := n1_; have HK := n2_; clear n0_ n1_ n2_; clear hg hw hp_; have p6 : 0 ≤ (x5_1 : Int) := of_decide_eq_true (by first | (with_reducible assumption) | assumption); have q6 : (x5_1 : Int) < ((x0_1.length : Int) : Int) := of_decide_eq_true (by first | (with_reducible assumption) | assumption); obtain ⟨ce6, hcl6, hM6, hcc6, hfr6⟩ := Kd.R_elem HO_0.out z57 (x5_1 : Int) p6 q6; obtain rfl := k57_openM hM6; have hx6_0 : w9.cell? ⟨go5, (x5_1 : Int).toNat * 2, none⟩ = some (.int .i64 ((rd_T57 y174 x5_1).f0)) := hcc6 0 _ rfl; have hx6_1 : w9.cell? ⟨go5, (x5_1 : Int).toNat * 2 + 1, none⟩ = some (.int .i64 ((rd_T57 y174 x5_1).f1)) := hcc6 1 _ rfl; have hf6_0 : w9.frozen? ⟨go5, (x5_1 : Int).toNat * 2, none⟩ = false := hfr6 0; have hf6_1 : w9.frozen? ⟨go5, (x5_1 : Int).toNat * 2 + 1, none⟩ = false := hfr6 1; clear hcl6 hcc6 hfr6 hM6; replace p6 := eq_true p6; replace q6 := eq_true q6; have HX10 := Aside0.mk (show Kd.R k57 57 w9 w0.heap.size (fun k_ => (P0_ k_ ∨ w.heap.size ≤ k_)) (.slice (some ⟨go5, 0, none⟩) x0_1.length co7) y174 from (by (with_reducible repeat (first | apply Kd.R_alloc | apply Kd.R_drewN | apply Kd.R_drew)); exact HO_0.out)); obtain ⟨ce10, hcl10, hM10, hcc10, hfr10⟩ := Kd.R_elem HX10.out z57 (x5_1 : Int) (of_decide_eq_true (by first | (with_reducible assumption) | assumption)) (by have h_ : (x5_1 : Int) < ((x0_1.length : Int) : Int) := of_decide_eq_true (by first | (with_reducible assumption) | assumption); first | exact h_ | (have e_ := (Kd.R_reads' HO_0.out).1; omega) | simpa using h_); obtain rfl := k57_openM hM10; have HP10 := Kd.R_seg HX10.out (x5_1 : Int) (of_decide_eq_true (by first | (with_reducible assumption) | assumption)) (by have h_ : (x5_1 : Int) < ((x0_1.length : Int) : Int) := of_decide_eq_true (by first | (with_reducible assumption) | assumption); first | exact h_ | (have e_ := (Kd.R_reads' HO_0.out).1; omega) | simpa using h_) (seg := [.int .i64 (wrap64 (x1_1 + 1))]) (j := 1) hcl10 hcc10 (show 2 ≤ 2 from by decide) (x' := (⟨(rd_T57 y174 x5_1).f0, wrap64 (x1_1 + 1)⟩ : S57)) (k57_mkM _ _ _ (⟨(rd_T57 y174 x5_1).f0, wrap64 (x1_1 + 1)⟩ : S57) ) (fun _ hk => hk); have hx10_1 := hcc10 1 _ rfl; (try simp only [show (k57).sz = 2 from rfl, Nat.mul_one, Nat.add_zero] at hx10_1); have hf10_1 := hfr10 1; (try simp only [show (k57).sz = 2 from rfl, Nat.mul_one, Nat.add_zero] at hf10_1); clear hcl10 hcc10 hfr10 hM10) | ((with_reducible refine gate_store (t := 2) (p := 23) rfl ?_); refine store_event (t := 2) (p := 23) (v := ?vo_w11) (w1 := (w9.setCell ⟨go5, (x5_1 : Int).toNat * 2 + 1, none⟩ (.int .i64 (wrap64 (x1_1 + 1))))) ?hg ?ho ?hn ?hr ?_; (case ho => rfl); (case hg => rfl); (case hn => rfl); (case hr => first | (go_simp; done) | (go_simp; rfl)); intro w11 hw; have hg : w9.grownBy w11 (some go5) := (by rw [hw]; exact HP10.2); have hp_ : Kd.R k57 57 w11 w0.heap.size (fun k_ => (P0_ k_ ∨ w.heap.size ≤ k_)) (.slice (some ⟨go5, 0, none⟩) x0_1.length co7) y175 := (by rw [hw, Ny175.out]; exact HP10.1); clear HP10; have n0_ := Aside0.mk (hp_); have n1_ := Aside0.mk ((by rw [hw]; exact below_set (HB.out) GB5.out : Below w0.heap.size w0 w11)); have n2_ := Aside0.mk (Kept.of_grown (S := (fun k_ => P0_ k_)) hg (by repeat (first | (with_reducible first | exact HK.out | apply Kept.alloc | apply Kept.drewN | apply Kept.drew) | exact HK.out)) (fun k_ e_ => (HO_0.out.1 k_ e_))); clear HO_0; clear HB; clear HK; have HO_0 := n0_; have HB := n1_; have HK := n2_; clear n0_ n1_ n2_; clear hg hw hp_))
     go_roundg k1
     case measure => have := HK1.out; omega
     case rel => exact ⟨(y175), (wrap64 ((wrap64 (x1_1 + 1)) + 1)), (wrap64 (x5_1 + 1)), (by first | rfl | (simp; done) | (simp [*]; done)), (by first | rfl | (simp; done) | (simp [*]; done)), H', ⟨by have := HK1.out; omega⟩, ⟨by (with_reducible repeat (first | apply Kd.R_alloc | apply Kd.R_drewN | apply Kd.R_drew)); exact HO_0.out⟩, ⟨by repeat (first | (with_reducible first | exact HK.out | apply Kept.alloc | apply Kept.drewN | apply Kept.drew) | exact HK.out)⟩, ⟨by repeat (first | (with_reducible first | exact HB.out | apply below_alloc | apply pw_below_drewN | apply below_drew1) | exact HB.out)⟩⟩
    ·rw [if_neg c4] at H
     exact absurd H (by simp)
   ·rw [if_neg c3] at H
    have c3b0 : decide (x5_1 < (x0_1.length : Int)) = false := decide_eq_false c3
    clear c3
    simp only [Option.some.injEq, Prod.mk.injEq] at H
    obtain ⟨rfl, rfl⟩ := H
    obtain ⟨Ao12, co12, eo12⟩ := Kd.R_slice HO_0.out
    subst eo12
    go_wp2
    go_ret
    exact ⟨by first | rfl | (simp [*] <;> rfl), by (with_reducible repeat (first | apply Kd.R_alloc | apply Kd.R_drewN | apply Kd.R_drew)); exact HO_0.out, by repeat (first | (with_reducible first | exact HB.out | apply below_alloc | apply pw_below_drewN | apply below_drew1) | exact HB.out), by repeat (first | (with_reducible first | exact HK.out | apply Kept.alloc | apply Kept.drewN | apply Kept.drew) | exact HK.out)⟩

/-! ### laws_markRNodeS: function 25 -/
def laws_markRNodeS.l0 : Nat → List S55 → Int → Int → Option (Int × List S55)
  | 0, _, _, _ => none
  | k + 1, x0, x1, x5 => if x5 < (x0.length : Int) then (if 0 ≤ x5 then ((laws_markRangeS.f k ((rd_T55 x0 x5).f2) (wrap64 ((wrap64 (x1 + 1)) + 1))).bind fun p => (laws_markRNodeS.l0 k (x0.set (x5 : Int).toNat ⟨x1, ((Int.tmod (wrap64 (x1 + 1)) 3) == 0), p.2, p.1, (wrap64 (p.1 + 1)), (wrap64 ((wrap64 (p.1 + 1)) + 1)), (wrap64 ((wrap64 ((wrap64 (p.1 + 1)) + 1)) + 1))⟩) (wrap64 ((wrap64 ((wrap64 ((wrap64 (p.1 + 1)) + 1)) + 1)) + 1)) (wrap64 (x5 + 1)))) else none) else some (x1, x0)
def laws_markRNodeS.f (k : Nat) (l0 : List S55) (a1 : Int) : Option (Int × List S55) := laws_markRNodeS.l0 k l0 a1 0
theorem laws_markRNodeS.mono_l : ∀ k y0 y1 y2, LeO (laws_markRNodeS.l0 k y0 y1 y2) (laws_markRNodeS.l0 (k + 1) y0 y1 y2)
  | 0, _, _, _ => fun r h => by simp [laws_markRNodeS.l0] at h
  | k + 1, y0, y1, y2 => by
    rw [laws_markRNodeS.l0, laws_markRNodeS.l0]
    exact LeO.ite (LeO.ite (LeO.bind (laws_markRangeS.mono _ _ _) fun _ => laws_markRNodeS.mono_l k _ _ _) (LeO.none _)) (LeO.refl _)
theorem laws_markRNodeS.mono : ∀ a0 a1 k, LeO (laws_markRNodeS.f k a0 a1) (laws_markRNodeS.f (k + 1) a0 a1) := fun _ _ k => laws_markRNodeS.mono_l k _ _ _
section
variable {W : World} {base g n cap : Nat} {ok : Nat → Prop} {xs : List S55}
theorem laws_markRNodeS.st0 (h : Kd.S k55 55 W base ok (.slice (some ⟨g, 0, none⟩) n cap) xs) (i : Int) (h0 : 0 ≤ i) (h1 : i < n) (a : Int) :
    Kd.S k55 55 (W.setCell ⟨g, i.toNat * 7, none⟩ (.int .i64 a)) base ok (.slice (some ⟨g, 0, none⟩) n cap) (xs.set i.toNat { rd_T55 xs i with f0 := a }) ∧ W.cell? ⟨g, i.toNat * 7, none⟩ = some (.int .i64 (rd_T55 xs i).f0) ∧ W.frozen? ⟨g, i.toNat * 7, none⟩ = false := by
  obtain ⟨oki, c, hl, hM, hc, hok, hH⟩ := Kd.S_lend h z55 i h0 h1
  obtain ⟨v2, rfl, hR⟩ := k55_openM hM
  have hs := (Kd.S_seg0 hH h0 h1 (seg := [.int .i64 a]) (j := 0) (by show 0 + 1 ≤ 7; omega) (x' := { rd_T55 xs i with f0 := a }) (k55_mkM W base oki { rd_T55 xs i with f0 := a } hR) (fun _ hk => hk)).1
  exact ⟨hs, hc 0 _ rfl, (Kd.H_at hH h0 h1).2 0⟩
theorem laws_markRNodeS.st1 (h : Kd.S k55 55 W base ok (.slice (some ⟨g, 0, none⟩) n cap) xs) (i : Int) (h0 : 0 ≤ i) (h1 : i < n) (a : Bool) :
    Kd.S k55 55 (W.setCell ⟨g, i.toNat * 7 + 1, none⟩ (.bool a)) base ok (.slice (some ⟨g, 0, none⟩) n cap) (xs.set i.toNat { rd_T55 xs i with f1 := a }) ∧ W.cell? ⟨g, i.toNat * 7 + 1, none⟩ = some (.bool (rd_T55 xs i).f1) ∧ W.frozen? ⟨g, i.toNat * 7 + 1, none⟩ = false := by
  obtain ⟨oki, c, hl, hM, hc, hok, hH⟩ := Kd.S_lend h z55 i h0 h1
  obtain ⟨v2, rfl, hR⟩ := k55_openM hM
  have hs := (Kd.S_seg0 hH h0 h1 (seg := [.bool a]) (j := 1) (by show 1 + 1 ≤ 7; omega) (x' := { rd_T55 xs i with f1 := a }) (k55_mkM W base oki { rd_T55 xs i with f1 := a } hR) (fun _ hk => hk)).1
  exact ⟨hs, hc 1 _ rfl, (Kd.H_at hH h0 h1).2 1⟩
theorem laws_markRNodeS.st3 (h : Kd.S k55 55 W base ok (.slice (some ⟨g, 0, none⟩) n cap) xs) (i : Int) (h0 : 0 ≤ i) (h1 : i < n) (a : Int) :
    Kd.S k55 55 (W.setCell ⟨g, i.toNat * 7 + 3, none⟩ (.int .i64 a)) base ok (.slice (some ⟨g, 0, none⟩) n cap) (xs.set i.toNat { rd_T55 xs i with f3 := a }) ∧ W.cell? ⟨g, i.toNat * 7 + 3, none⟩ = some (.int .i64 (rd_T55 xs i).f3) ∧ W.frozen? ⟨g, i.toNat * 7 + 3, none⟩ = false := by
  obtain ⟨oki, c, hl, hM, hc, hok, hH⟩ := Kd.S_lend h z55 i h0 h1
  obtain ⟨v2, rfl, hR⟩ := k55_openM hM
  have hs := (Kd.S_seg0 hH h0 h1 (seg := [.int .i64 a]) (j := 3) (by show 3 + 1 ≤ 7; omega) (x' := { rd_T55 xs i with f3 := a }) (k55_mkM W base oki { rd_T55 xs i with f3 := a } hR) (fun _ hk => hk)).1
  exact ⟨hs, hc 3 _ rfl, (Kd.H_at hH h0 h1).2 3⟩
theorem laws_markRNodeS.st4 (h : Kd.S k55 55 W base ok (.slice (some ⟨g, 0, none⟩) n cap) xs) (i : Int) (h0 : 0 ≤ i) (h1 : i < n) (a : Int) :
    Kd.S k55 55 (W.setCell ⟨g, i.toNat * 7 + 4, none⟩ (.int .i64 a)) base ok (.slice (some ⟨g, 0, none⟩) n cap) (xs.set i.toNat { rd_T55 xs i with f4 := a }) ∧ W.cell? ⟨g, i.toNat * 7 + 4, none⟩ = some (.int .i64 (rd_T55 xs i).f4) ∧ W.frozen? ⟨g, i.toNat * 7 + 4, none⟩ = false := by
  obtain ⟨oki, c, hl, hM, hc, hok, hH⟩ := Kd.S_lend h z55 i h0 h1
  obtain ⟨v2, rfl, hR⟩ := k55_openM hM
  have hs := (Kd.S_seg0 hH h0 h1 (seg := [.int .i64 a]) (j := 4) (by show 4 + 1 ≤ 7; omega) (x' := { rd_T55 xs i with f4 := a }) (k55_mkM W base oki { rd_T55 xs i with f4 := a } hR) (fun _ hk => hk)).1
  exact ⟨hs, hc 4 _ rfl, (Kd.H_at hH h0 h1).2 4⟩
theorem laws_markRNodeS.st5 (h : Kd.S k55 55 W base ok (.slice (some ⟨g, 0, none⟩) n cap) xs) (i : Int) (h0 : 0 ≤ i) (h1 : i < n) (a : Int) :
    Kd.S k55 55 (W.setCell ⟨g, i.toNat * 7 + 5, none⟩ (.int .i64 a)) base ok (.slice (some ⟨g, 0, none⟩) n cap) (xs.set i.toNat { rd_T55 xs i with f5 := a }) ∧ W.cell? ⟨g, i.toNat * 7 + 5, none⟩ = some (.int .i64 (rd_T55 xs i).f5) ∧ W.frozen? ⟨g, i.toNat * 7 + 5, none⟩ = false := by
  obtain ⟨oki, c, hl, hM, hc, hok, hH⟩ := Kd.S_lend h z55 i h0 h1
  obtain ⟨v2, rfl, hR⟩ := k55_openM hM
  have hs := (Kd.S_seg0 hH h0 h1 (seg := [.int .i64 a]) (j := 5) (by show 5 + 1 ≤ 7; omega) (x' := { rd_T55 xs i with f5 := a }) (k55_mkM W base oki { rd_T55 xs i with f5 := a } hR) (fun _ hk => hk)).1
  exact ⟨hs, hc 5 _ rfl, (Kd.H_at hH h0 h1).2 5⟩
theorem laws_markRNodeS.st6 (h : Kd.S k55 55 W base ok (.slice (some ⟨g, 0, none⟩) n cap) xs) (i : Int) (h0 : 0 ≤ i) (h1 : i < n) (a : Int) :
    Kd.S k55 55 (W.setCell ⟨g, i.toNat * 7 + 6, none⟩ (.int .i64 a)) base ok (.slice (some ⟨g, 0, none⟩) n cap) (xs.set i.toNat { rd_T55 xs i with f6 := a }) ∧ W.cell? ⟨g, i.toNat * 7 + 6, none⟩ = some (.int .i64 (rd_T55 xs i).f6) ∧ W.frozen? ⟨g, i.toNat * 7 + 6, none⟩ = false := by
  obtain ⟨oki, c, hl, hM, hc, hok, hH⟩ := Kd.S_lend h z55 i h0 h1
  obtain ⟨v2, rfl, hR⟩ := k55_openM hM
  have hs := (Kd.S_seg0 hH h0 h1 (seg := [.int .i64 a]) (j := 6) (by show 6 + 1 ≤ 7; omega) (x' := { rd_T55 xs i with f6 := a }) (k55_mkM W base oki { rd_T55 xs i with f6 := a } hR) (fun _ hk => hk)).1
  exact ⟨hs, hc 6 _ rfl, (Kd.H_at hH h0 h1).2 6⟩
/-- The inner row, lent to a call that writes into it alone. -/
theorem laws_markRNodeS.kids (h : Kd.S k55 55 W base ok (.slice (some ⟨g, 0, none⟩) n cap) xs) (i : Int) (h0 : 0 ≤ i) (h1 : i < n) :
    ∃ (oki : Nat → Prop) (v2 : Value), W.cell? ⟨g, i.toNat * 7 + 2, none⟩ = some v2 ∧ (∃ A c, v2 = .slice A (rd_T55 xs i).f2.length c) ∧ Kd.R k57 57 W base oki v2 (rd_T55 xs i).f2 ∧ (∀ k, oki k → ok k ∧ k ≠ g) ∧
      ∀ (W' : World) (okn : Nat → Prop) (r2 : List S57), Kept W W' oki → Kd.R k57 57 W' base okn v2 r2 → Kd.S k55 55 W' base ok (.slice (some ⟨g, 0, none⟩) n cap) (xs.set i.toNat { rd_T55 xs i with f2 := r2 }) := by
  obtain ⟨oki, c, hl, hM, hc, hok, hH⟩ := Kd.S_lend h z55 i h0 h1
  obtain ⟨v2, rfl, hR⟩ := k55_openM hM
  refine ⟨oki, v2, hc 2 _ rfl, Kd.R_slice hR, hR, hok, fun W' okn r2 hk hr => ?_⟩
  have hH' := Kd.H_kept hH hk (fun _ _ hn => hn)
  have hr' : Kd.R k57 57 W' base oki v2 r2 := Kd.R_reok rfl hr (fun k hk => hR.1 k hk)
  exact Kd.H_back hH' (k55_mkM W' base oki { rd_T55 xs i with f2 := r2 } hr') (fun _ hk => hk)
end
theorem laws_markRNodeS.rd_set (l : List S55) (x : Int) (h1 : x.toNat < l.length) (a : S55) : rd_T55 (l.set x.toNat a) x = a := by
  unfold rd_T55
  simp [List.getD_eq_getElem?_getD, h1]
set_option maxHeartbeats 8000000 in
set_option maxRecDepth 100000 in
theorem laws_markRNodeS.calls (k : Nat) (P0_ : Nat → Prop) (u9000_ : Value) (l0 : List S55) (a1 : Int) (r1 : Int) (r2 : List S55) (w0 w : World) (hB : Below w0.heap.size w0 w) (ho0 : Kd.S k55 55 w w0.heap.size P0_ u9000_ l0) (h : laws_markRNodeS.f k l0 a1 = some (r1, r2)) :
    Calls Tryd.prog 25 #[u9000_, .int .i64 a1] w fun e w' => e = .returned (.int .i64 r1) ∧ Kd.S k55 55 w' w0.heap.size (fun k_ => (P0_ k_ ∨ w.heap.size ≤ k_)) u9000_ r2 ∧ Below w0.heap.size w0 w' ∧ Kept w w' (fun k_ => P0_ k_) := by
  have hu55 := Tryd.underlying55
  have HO := Aside0.mk (show Kd.S k55 55 w w0.heap.size (fun k_ => (P0_ k_ ∨ w.heap.size ≤ k_)) u9000_ l0 from Kd.S_mono ho0 (fun k_ hk => (.inl hk)))
  have HK := Aside0.mk (Kept.refl w (fun k_ => P0_ k_))
  have HB := Aside0.mk hB
  clear hB ho0
  have H' : Aside0 (laws_markRNodeS.l0 k l0 a1 0 = some (r1, r2)) := ⟨h⟩
  clear h
  go_enter Tryd.func25, Tryd.ntmps25
  go_wp2
  go_loopg [1, 5] k (fun kq v1 v5 w' => ∃ (x0 : List S55) (x1 : Int) (x5 : Int), v1 = .int .i64 x1 ∧ v5 = .int .i64 x5 ∧ Aside0 (laws_markRNodeS.l0 kq x0 x1 x5 = some (r1, r2)) ∧ Aside0 (kq ≤ k) ∧ Aside0 (Kd.S k55 55 w' w0.heap.size (fun k_ => (P0_ k_ ∨ w.heap.size ≤ k_)) u9000_ x0) ∧ Aside0 (Kept w w' (fun k_ => P0_ k_)) ∧ Aside0 (Below w0.heap.size w0 w'))
  case atStart => exact ⟨l0, a1, 0, (by first | rfl | (simp; done) | (simp [*]; done)), (by first | rfl | (simp; done) | (simp [*]; done)), H', ⟨Nat.le_refl _⟩, ⟨(by (with_reducible repeat (first | apply Kd.S_alloc | apply Kd.S_drewN | apply Kd.S_drew)); exact HO.out)⟩, ⟨(by repeat (first | (with_reducible first | exact HK.out | apply Kept.alloc | apply Kept.drewN | apply Kept.drew) | exact HK.out))⟩, ⟨(by repeat (first | (with_reducible first | exact HB.out | apply below_alloc | apply pw_below_drewN | apply below_drew1) | exact HB.out))⟩⟩
  case round =>
    clear H' HO HK HB
    obtain ⟨x0, x1, x5, rfl, rfl, HA, HK1, HO, HK, HB⟩ := hrel
    cases gk with
    | zero => exact absurd HA.out (by simp [laws_markRNodeS.l0])
    | succ k1 =>
      have H := HA.out
      clear HA
      rw [laws_markRNodeS.l0] at H
      by_cases hi : x5 < (x0.length : Int)
      · rw [if_pos hi] at H
        by_cases hz : 0 ≤ x5
        · rw [if_pos hz] at H
          obtain ⟨⟨p1, p2⟩, hp, H⟩ := Option.bind_eq_some_iff.1 H
          have HP2 := Aside0.mk hp
          clear hp
          have H' := Aside0.mk H
          clear H
          have c3b0 : decide (x5 < (x0.length : Int)) = true := decide_eq_true hi
          have c5b0 : decide (0 ≤ x5) = true := decide_eq_true hz
          obtain ⟨g, cap, eo6, gb6, gl6, cl6, HG6⟩ := Kd.S_form HO.out (by omega)
          subst eo6
          have GB := Aside0.mk gb6
          have HP : Aside0 (P0_ g ∨ w.heap.size ≤ g) := ⟨(Kd.S_R HO.out).1 g (by simp [Value.ownBlock])⟩
          clear gb6 gl6 HG6
          have HI := Aside0.mk (And.intro hz hi)
          have hlt : x5.toNat < x0.length := by omega
          have p6 : 0 ≤ x5 := hz
          have q6 : x5 < (x0.length : Int) := hi
          clear hi hz
          obtain ⟨y0, hy0⟩ : ∃ y, y = x0.set x5.toNat { rd_T55 x0 x5 with f0 := x1 } := ⟨_, rfl⟩
          have hl0 : x5.toNat < y0.length := by rw [hy0, List.length_set]; exact hlt
          have e0 : rd_T55 y0 x5 = { rd_T55 x0 x5 with f0 := x1 } := by rw [hy0]; exact laws_markRNodeS.rd_set _ _ hlt _
          obtain ⟨y1, hy1⟩ : ∃ y, y = y0.set x5.toNat { rd_T55 y0 x5 with f1 := ((Int.tmod (wrap64 (x1 + 1)) 3) == 0) } := ⟨_, rfl⟩
          have hl1 : x5.toNat < y1.length := by rw [hy1, List.length_set]; exact hl0
          have e1 : rd_T55 y1 x5 = { rd_T55 y0 x5 with f1 := ((Int.tmod (wrap64 (x1 + 1)) 3) == 0) } := by rw [hy1]; exact laws_markRNodeS.rd_set _ _ hl0 _
          obtain ⟨y2, hy2⟩ : ∃ y, y = y1.set x5.toNat { rd_T55 y1 x5 with f2 := p2 } := ⟨_, rfl⟩
          have hl2 : x5.toNat < y2.length := by rw [hy2, List.length_set]; exact hl1
          have e2 : rd_T55 y2 x5 = { rd_T55 y1 x5 with f2 := p2 } := by rw [hy2]; exact laws_markRNodeS.rd_set _ _ hl1 _
          obtain ⟨y3, hy3⟩ : ∃ y, y = y2.set x5.toNat { rd_T55 y2 x5 with f3 := p1 } := ⟨_, rfl⟩
          have hl3 : x5.toNat < y3.length := by rw [hy3, List.length_set]; exact hl2
          have e3 : rd_T55 y3 x5 = { rd_T55 y2 x5 with f3 := p1 } := by rw [hy3]; exact laws_markRNodeS.rd_set _ _ hl2 _
          obtain ⟨y4, hy4⟩ : ∃ y, y = y3.set x5.toNat { rd_T55 y3 x5 with f4 := (wrap64 (p1 + 1)) } := ⟨_, rfl⟩
          have hl4 : x5.toNat < y4.length := by rw [hy4, List.length_set]; exact hl3
          have e4 : rd_T55 y4 x5 = { rd_T55 y3 x5 with f4 := (wrap64 (p1 + 1)) } := by rw [hy4]; exact laws_markRNodeS.rd_set _ _ hl3 _
          obtain ⟨y5, hy5⟩ : ∃ y, y = y4.set x5.toNat { rd_T55 y4 x5 with f5 := (wrap64 ((wrap64 (p1 + 1)) + 1)) } := ⟨_, rfl⟩
          have hl5 : x5.toNat < y5.length := by rw [hy5, List.length_set]; exact hl4
          have e5 : rd_T55 y5 x5 = { rd_T55 y4 x5 with f5 := (wrap64 ((wrap64 (p1 + 1)) + 1)) } := by rw [hy5]; exact laws_markRNodeS.rd_set _ _ hl4 _
          obtain ⟨y6, hy6⟩ : ∃ y, y = y5.set x5.toNat { rd_T55 y5 x5 with f6 := (wrap64 ((wrap64 ((wrap64 (p1 + 1)) + 1)) + 1)) } := ⟨_, rfl⟩
          have hl6 : x5.toNat < y6.length := by rw [hy6, List.length_set]; exact hl5
          have e6 : rd_T55 y6 x5 = { rd_T55 y5 x5 with f6 := (wrap64 ((wrap64 ((wrap64 (p1 + 1)) + 1)) + 1)) } := by rw [hy6]; exact laws_markRNodeS.rd_set _ _ hl5 _
          have E3 : Aside0 (y6 = x0.set x5.toNat ⟨x1, ((Int.tmod (wrap64 (x1 + 1)) 3) == 0), p2, p1, (wrap64 (p1 + 1)), (wrap64 ((wrap64 (p1 + 1)) + 1)), (wrap64 ((wrap64 ((wrap64 (p1 + 1)) + 1)) + 1))⟩) := ⟨by rw [hy6, e5, e4, e3, e2, e1, e0, hy5, hy4, hy3, hy2, hy1, hy0]; simp only [List.set_set]⟩
          have E1 : Aside0 ((rd_T55 y1 x5).f2 = (rd_T55 x0 x5).f2) := ⟨by rw [e1, e0]⟩
          have NY0 := Aside0.mk hy0
          have NY1 := Aside0.mk hy1
          have NY2 := Aside0.mk hy2
          have NY3 := Aside0.mk hy3
          have NY4 := Aside0.mk hy4
          have NY5 := Aside0.mk hy5
          have NY6 := Aside0.mk hy6
          clear hy0 hy1 hy2 hy3 hy4 hy5 hy6 e0 e1 e2 e3 e4 e5 e6 hl0 hl1 hl2 hl3 hl4 hl5 hl6 hlt
          obtain ⟨hs0, hx0, hf0⟩ := laws_markRNodeS.st0 HO.out x5 HI.out.1 HI.out.2 x1
          have HS0 := Aside0.mk hs0
          clear hs0
          replace p6 := eq_true p6
          replace q6 := eq_true q6
          go_wp2_with (first | ((with_reducible refine gate_store (t := 2) (p := 16) rfl ?_); refine store_event (t := 2) (p := 16) (v := ?vo_0) (w1 := (wr.setCell ⟨g, x5.toNat * 7, none⟩ (.int .i64 x1))) ?hg ?ho ?hn ?hr ?_; (case ho => rfl); (case hg => rfl); (case hn => rfl); (case hr => first | (go_simp; done) | (go_simp; rfl)); intro ws0 hw; have n0_ : Aside0 (Kd.S k55 55 ws0 w0.heap.size (fun k_ => (P0_ k_ ∨ w.heap.size ≤ k_)) (.slice (some ⟨g, 0, none⟩) x0.length cap) y0) := ⟨by rw [hw, NY0.out]; exact HS0.out⟩; have n1_ : Aside0 (Below w0.heap.size w0 ws0) := ⟨by rw [hw]; exact below_set HB.out GB.out⟩; have n2_ : Aside0 (Kept w ws0 (fun k_ => P0_ k_)) := ⟨by rw [hw]; exact HK.out.setCell HP.out _⟩; clear hw HS0; clear HO HB HK; have HO := n0_; have HB := n1_; have HK := n2_; clear n0_ n1_ n2_; clear hx0 hf0; obtain ⟨hs1, hx1, hf1⟩ := laws_markRNodeS.st1 HO.out x5 HI.out.1 HI.out.2 ((Int.tmod (wrap64 (x1 + 1)) 3) == 0); have HS1 := Aside0.mk hs1; clear hs1) | ((with_reducible refine gate_store (t := 4) (p := 25) rfl ?_); refine store_event (t := 4) (p := 25) (v := ?vo_1) (w1 := (ws0.setCell ⟨g, x5.toNat * 7 + 1, none⟩ (.bool ((Int.tmod (wrap64 (x1 + 1)) 3) == 0)))) ?hg ?ho ?hn ?hr ?_; (case ho => rfl); (case hg => rfl); (case hn => rfl); (case hr => first | (go_simp; done) | (go_simp; rfl)); intro ws1 hw; have n0_ : Aside0 (Kd.S k55 55 ws1 w0.heap.size (fun k_ => (P0_ k_ ∨ w.heap.size ≤ k_)) (.slice (some ⟨g, 0, none⟩) x0.length cap) y1) := ⟨by rw [hw, NY1.out]; exact HS1.out⟩; have n1_ : Aside0 (Below w0.heap.size w0 ws1) := ⟨by rw [hw]; exact below_set HB.out GB.out⟩; have n2_ : Aside0 (Kept w ws1 (fun k_ => P0_ k_)) := ⟨by rw [hw]; exact HK.out.setCell HP.out _⟩; clear hw HS1; clear HO HB HK; have HO := n0_; have HB := n1_; have HK := n2_; clear n0_ n1_ n2_; clear hx1 hf1; obtain ⟨oki, v2, hx2, ⟨A3, c3, ev2⟩, hr2, hok2, hback⟩ := laws_markRNodeS.kids HO.out x5 HI.out.1 HI.out.2; subst ev2; rw [E1.out] at hx2 hr2 hback; have HR2 := Aside0.mk hr2; have HOK2 := Aside0.mk hok2; have HBACK := Aside0.mk hback; clear hr2 hok2 hback) | ((with_reducible refine gate_callee (f := 41) rfl ?_); refine goesL_ (some 34) rfl rfl Tryd.func41 (by kernel_rfl) rfl #[.slice A3 (rd_T55 x0 x5).f2.length c3, .int .i64 (wrap64 ((wrap64 (x1 + 1)) + 1))] rfl (by (try simp only [List.map_toArray, List.map_cons, List.map_nil]); first | done | rfl | (simp only [List.length_drop, List.length_take]; rfl)) ?_; (with_reducible refine (laws_markRangeS.calls k1 oki (.slice A3 (rd_T55 x0 x5).f2.length c3) (rd_T55 x0 x5).f2 (wrap64 ((wrap64 (x1 + 1)) + 1)) p1 p2 w0 _ ?s1 ?s2 HP2.out).mono ?_); (case s1 => exact (by repeat (first | (with_reducible first | exact HB.out | apply below_alloc | apply pw_below_drewN | apply below_drew1) | exact HB.out))); (case s2 => exact (by (with_reducible repeat (first | apply Kd.R_alloc | apply Kd.R_drewN | apply Kd.R_drew)); exact HR2.out)); rintro e wr2_ ⟨rfl, hr3, hb, hk⟩; refine ⟨_, rfl, ?_⟩; have n0_ : Aside0 (Kd.S k55 55 wr2_ w0.heap.size (fun k_ => (P0_ k_ ∨ w.heap.size ≤ k_)) (.slice (some ⟨g, 0, none⟩) x0.length cap) y2) := ⟨by rw [NY2.out]; exact HBACK.out wr2_ _ p2 hk hr3⟩; have n1_ := Aside0.mk hb; have n2_ : Aside0 (Kept w wr2_ (fun k_ => P0_ k_)) := ⟨Kept.then_ (by repeat (first | (with_reducible first | exact HK.out | apply Kept.alloc | apply Kept.drewN | apply Kept.drew) | exact HK.out)) hk (fun k_ h_ => (HOK2.out k_ h_).1)⟩; clear hb hk hr3 hx2 HR2 HBACK HOK2; clear HO HB HK; have HO := n0_; have HB := n1_; have HK := n2_; clear n0_ n1_ n2_; obtain ⟨hs3, hx3, hf3⟩ := laws_markRNodeS.st3 HO.out x5 HI.out.1 HI.out.2 p1; have HS3 := Aside0.mk hs3; clear hs3) | ((with_reducible refine gate_store (t := 2) (p := 39) rfl ?_); refine store_event (t := 2) (p := 39) (v := ?vo_3) (w1 := (wr2_.setCell ⟨g, x5.toNat * 7 + 3, none⟩ (.int .i64 p1))) ?hg ?ho ?hn ?hr ?_; (case ho => rfl); (case hg => rfl); (case hn => rfl); (case hr => first | (go_simp; done) | (go_simp; rfl)); intro ws3 hw; have n0_ : Aside0 (Kd.S k55 55 ws3 w0.heap.size (fun k_ => (P0_ k_ ∨ w.heap.size ≤ k_)) (.slice (some ⟨g, 0, none⟩) x0.length cap) y3) := ⟨by rw [hw, NY3.out]; exact HS3.out⟩; have n1_ : Aside0 (Below w0.heap.size w0 ws3) := ⟨by rw [hw]; exact below_set HB.out GB.out⟩; have n2_ : Aside0 (Kept w ws3 (fun k_ => P0_ k_)) := ⟨by rw [hw]; exact HK.out.setCell HP.out _⟩; clear hw HS3; clear HO HB HK; have HO := n0_; have HB := n1_; have HK := n2_; clear n0_ n1_ n2_; clear hx3 hf3; obtain ⟨hs4, hx4, hf4⟩ := laws_markRNodeS.st4 HO.out x5 HI.out.1 HI.out.2 (wrap64 (p1 + 1)); have HS4 := Aside0.mk hs4; clear hs4) | ((with_reducible refine gate_store (t := 2) (p := 46) rfl ?_); refine store_event (t := 2) (p := 46) (v := ?vo_4) (w1 := (ws3.setCell ⟨g, x5.toNat * 7 + 4, none⟩ (.int .i64 (wrap64 (p1 + 1))))) ?hg ?ho ?hn ?hr ?_; (case ho => rfl); (case hg => rfl); (case hn => rfl); (case hr => first | (go_simp; done) | (go_simp; rfl)); intro ws4 hw; have n0_ : Aside0 (Kd.S k55 55 ws4 w0.heap.size (fun k_ => (P0_ k_ ∨ w.heap.size ≤ k_)) (.slice (some ⟨g, 0, none⟩) x0.length cap) y4) := ⟨by rw [hw, NY4.out]; exact HS4.out⟩; have n1_ : Aside0 (Below w0.heap.size w0 ws4) := ⟨by rw [hw]; exact below_set HB.out GB.out⟩; have n2_ : Aside0 (Kept w ws4 (fun k_ => P0_ k_)) := ⟨by rw [hw]; exact HK.out.setCell HP.out _⟩; clear hw HS4; clear HO HB HK; have HO := n0_; have HB := n1_; have HK := n2_; clear n0_ n1_ n2_; clear hx4 hf4; obtain ⟨hs5, hx5, hf5⟩ := laws_markRNodeS.st5 HO.out x5 HI.out.1 HI.out.2 (wrap64 ((wrap64 (p1 + 1)) + 1)); have HS5 := Aside0.mk hs5; clear hs5) | ((with_reducible refine gate_store (t := 2) (p := 53) rfl ?_); refine store_event (t := 2) (p := 53) (v := ?vo_5) (w1 := (ws4.setCell ⟨g, x5.toNat * 7 + 5, none⟩ (.int .i64 (wrap64 ((wrap64 (p1 + 1)) + 1))))) ?hg ?ho ?hn ?hr ?_; (case ho => rfl); (case hg => rfl); (case hn => rfl); (case hr => first | (go_simp; done) | (go_simp; rfl)); intro ws5 hw; have n0_ : Aside0 (Kd.S k55 55 ws5 w0.heap.size (fun k_ => (P0_ k_ ∨ w.heap.size ≤ k_)) (.slice (some ⟨g, 0, none⟩) x0.length cap) y5) := ⟨by rw [hw, NY5.out]; exact HS5.out⟩; have n1_ : Aside0 (Below w0.heap.size w0 ws5) := ⟨by rw [hw]; exact below_set HB.out GB.out⟩; have n2_ : Aside0 (Kept w ws5 (fun k_ => P0_ k_)) := ⟨by rw [hw]; exact HK.out.setCell HP.out _⟩; clear hw HS5; clear HO HB HK; have HO := n0_; have HB := n1_; have HK := n2_; clear n0_ n1_ n2_; clear hx5 hf5; obtain ⟨hs6, hx6, hf6⟩ := laws_markRNodeS.st6 HO.out x5 HI.out.1 HI.out.2 (wrap64 ((wrap64 ((wrap64 (p1 + 1)) + 1)) + 1)); have HS6 := Aside0.mk hs6; clear hs6) | ((with_reducible refine gate_store (t := 2) (p := 60) rfl ?_); refine store_event (t := 2) (p := 60) (v := ?vo_6) (w1 := (ws5.setCell ⟨g, x5.toNat * 7 + 6, none⟩ (.int .i64 (wrap64 ((wrap64 ((wrap64 (p1 + 1)) + 1)) + 1))))) ?hg ?ho ?hn ?hr ?_; (case ho => rfl); (case hg => rfl); (case hn => rfl); (case hr => first | (go_simp; done) | (go_simp; rfl)); intro ws6 hw; have n0_ : Aside0 (Kd.S k55 55 ws6 w0.heap.size (fun k_ => (P0_ k_ ∨ w.heap.size ≤ k_)) (.slice (some ⟨g, 0, none⟩) x0.length cap) y6) := ⟨by rw [hw, NY6.out]; exact HS6.out⟩; have n1_ : Aside0 (Below w0.heap.size w0 ws6) := ⟨by rw [hw]; exact below_set HB.out GB.out⟩; have n2_ : Aside0 (Kept w ws6 (fun k_ => P0_ k_)) := ⟨by rw [hw]; exact HK.out.setCell HP.out _⟩; clear hw HS6; clear HO HB HK; have HO := n0_; have HB := n1_; have HK := n2_; clear n0_ n1_ n2_; clear hx6 hf6; skip))
          go_roundg k1
          case measure => have := HK1.out; omega
          case rel => exact ⟨y6, (wrap64 ((wrap64 ((wrap64 ((wrap64 (p1 + 1)) + 1)) + 1)) + 1)), wrap64 (x5 + 1), (by first | rfl | (simp; done) | (simp [*]; done)), (by first | rfl | (simp; done) | (simp [*]; done)), ⟨by rw [E3.out]; exact H'.out⟩, ⟨by have := HK1.out; omega⟩, ⟨(by (with_reducible repeat (first | apply Kd.S_alloc | apply Kd.S_drewN | apply Kd.S_drew)); exact HO.out)⟩, ⟨(by repeat (first | (with_reducible first | exact HK.out | apply Kept.alloc | apply Kept.drewN | apply Kept.drew) | exact HK.out))⟩, ⟨(by repeat (first | (with_reducible first | exact HB.out | apply below_alloc | apply pw_below_drewN | apply below_drew1) | exact HB.out))⟩⟩
        · rw [if_neg hz] at H
          cases H
      · rw [if_neg hi] at H
        have c3b0 : decide (x5 < (x0.length : Int)) = false := decide_eq_false hi
        clear hi
        simp only [Option.some.injEq, Prod.mk.injEq] at H
        obtain ⟨rfl, rfl⟩ := H
        obtain ⟨Ao9, co9, eo9⟩ := Kd.S_slice HO.out
        subst eo9
        go_wp2
        go_ret
        exact ⟨by first | rfl | (simp [*] <;> rfl), (by (with_reducible repeat (first | apply Kd.S_alloc | apply Kd.S_drewN | apply Kd.S_drew)); exact HO.out), (by repeat (first | (with_reducible first | exact HB.out | apply below_alloc | apply pw_below_drewN | apply below_drew1) | exact HB.out)), (by repeat (first | (with_reducible first | exact HK.out | apply Kept.alloc | apply Kept.drewN | apply Kept.drew) | exact HK.out))⟩

/-! ### laws_heldRangeS: function 42 -/
def laws_heldRangeS.l0 : Nat → List (S57) → Int → Int → Option (Int)
 | 0, _, _, _ => none
 | k + 1, x0, x1, x5 => if x5 < (x0.length : Int) then (if 0 ≤ x5 then (if ((rd_T57 x0 x5).f0) = x1 then (if ((rd_T57 x0 x5).f1) = (wrap64 (x1 + 1)) then (laws_heldRangeS.l0 k x0 (wrap64 ((wrap64 (x1 + 1)) + 1)) (wrap64 (x5 + 1))) else (some (-1))) else (some (-1))) else (none)) else (some x1)
def laws_heldRangeS.f (k : Nat) (l0 : List (S57)) (a1 : Int) : Option (Int) := laws_heldRangeS.l0 k l0 a1 0
theorem laws_heldRangeS.mono_l : ∀ k, (∀ y0 y1 y2, LeO (laws_heldRangeS.l0 k y0 y1 y2) (laws_heldRangeS.l0 (k + 1) y0 y1 y2))
 | 0 => fun _ _ _ r h => by simp [laws_heldRangeS.l0] at h
 | k + 1 => by
  have ih0 := laws_heldRangeS.mono_l k
  ·intro y0 y1 y2
   unfold laws_heldRangeS.l0
   repeat' first
   | (with_reducible exact ih0 _ _ _)
   | (with_reducible exact LeO.refl _)
   | (with_reducible exact LeO.none _)
   | (with_reducible refine LeO.ite ?_ ?_)
   | (with_reducible refine LeO.bind ?_ (fun _ => ?_))
   | exact ih0 _ _ _
   | exact LeO.none _
   | refine LeO.ite ?_ ?_
   | refine LeO.bind ?_ (fun _ => ?_)
theorem laws_heldRangeS.mono : ∀ a0 a1 k, LeO (laws_heldRangeS.f k a0 a1) (laws_heldRangeS.f (k + 1) a0 a1) := by
 intro a0 a1 k
 have ih0 := laws_heldRangeS.mono_l k
 unfold laws_heldRangeS.f
 repeat' first
   | (with_reducible exact ih0 _ _ _)
   | (with_reducible exact LeO.refl _)
   | (with_reducible exact LeO.none _)
   | (with_reducible refine LeO.ite ?_ ?_)
   | (with_reducible refine LeO.bind ?_ (fun _ => ?_))
   | exact ih0 _ _ _
   | exact LeO.none _
   | refine LeO.ite ?_ ?_
   | refine LeO.bind ?_ (fun _ => ?_)
set_option maxHeartbeats 8000000 in
set_option maxRecDepth 100000 in
theorem laws_heldRangeS.calls (k : Nat) (A0 : Option Addr) (c0 : Nat) (l0 : List (S57)) (a1 : Int) (r : Int) (w : World) (hr0 : Kd.C k57 w A0 l0.length l0) (hc0 : l0.length ≤ c0) (h : laws_heldRangeS.f k l0 a1 = some r) :
  Calls Tryd.prog 42 #[.slice A0 l0.length c0, .int .i64 a1] w fun e w' => e = .returned (.int .i64 r) ∧ Drawn0 w w' := by
 have HR0 := Aside0.mk hr0
 have HC0 := Aside0.mk hc0
 clear hr0 hc0
 have H : (laws_heldRangeS.l0 k l0 a1 0) = some r := h
 clear h
 have H' := Aside0.mk H
 clear H
 go_enter Tryd.func42, Tryd.ntmps42
 go_wp2
 go_loopg [1, 5] k (fun kq v1 v5 w' => ∃ (x1_1 : Int) (x5_1 : Int), v1 = .int .i64 x1_1 ∧ v5 = .int .i64 x5_1 ∧ Aside0 (laws_heldRangeS.l0 kq l0 x1_1 x5_1 = some r) ∧ Aside0 (kq ≤ k) ∧ Drawn0 w w')
 case atStart => exact ⟨(a1), (0), (by first | rfl | (simp; done) | (simp [*]; done)), (by first | rfl | (simp; done) | (simp [*]; done)), H', ⟨Nat.le_refl _⟩, by repeat (first | exact Drawn0.refl _ | apply Drawn0.step)⟩
 case round =>
  clear H'
  try clear p2
  obtain ⟨x1_1, x5_1, rfl, rfl, HA, HK1, ⟨m1, rfl⟩⟩ := hrel
  cases gk with
  | zero => exact absurd HA.out (by simp [laws_heldRangeS.l0])
  | succ k1 =>
   have H := HA.out
   clear HA
   simp only [laws_heldRangeS.l0] at H
   by_cases c3 : x5_1 < (l0.length : Int)
   ·rw [if_pos c3] at H
    have c3b0 : decide (x5_1 < (l0.length : Int)) = true := decide_eq_true c3
    clear c3
    by_cases c4 : 0 ≤ x5_1
    ·rw [if_pos c4] at H
     have c4b0 : decide (0 ≤ x5_1) = true := decide_eq_true c4
     clear c4
     by_cases c5 : ((rd_T57 l0 x5_1).f0) = x1_1
     ·rw [if_pos c5] at H
      have c5b0 : (((rd_T57 l0 x5_1).f0) == x1_1) = true := beq_iff_eq.mpr c5
      have c5b1 : (((rd_T57 l0 x5_1).f0) != x1_1) = false := bne_eq_false_iff_eq.mpr c5
      clear c5
      by_cases c6 : ((rd_T57 l0 x5_1).f1) = (wrap64 (x1_1 + 1))
      ·rw [if_pos c6] at H
       have c6b0 : (((rd_T57 l0 x5_1).f1) == (wrap64 (x1_1 + 1))) = true := beq_iff_eq.mpr c6
       have c6b1 : (((rd_T57 l0 x5_1).f1) != (wrap64 (x1_1 + 1))) = false := bne_eq_false_iff_eq.mpr c6
       clear c6
       have H' := Aside0.mk H
       clear H
       have p176 : 0 ≤ (x5_1 : Int) := of_decide_eq_true (by first | (with_reducible assumption) | assumption)
       have q176 : x5_1 < (l0.length : Int) := of_decide_eq_true (by first | (with_reducible assumption) | assumption)
       obtain ⟨ad176, e176, hx176_0, hx176_1⟩ := at_T57 HR0.out x5_1 p176 q176
       cases e176
       replace p176 := eq_true p176
       replace q176 := eq_true q176
       have p177 : 0 ≤ (x5_1 : Int) := of_decide_eq_true (by first | (with_reducible assumption) | assumption)
       have q177 : x5_1 < (l0.length : Int) := of_decide_eq_true (by first | (with_reducible assumption) | assumption)
       obtain ⟨ad177, e177, hx177_0, hx177_1⟩ := at_T57 HR0.out x5_1 p177 q177
       obtain rfl : ad176 = ad177 := (by injection e177)
       replace p177 := eq_true p177
       replace q177 := eq_true q177
       go_wp2
       go_roundg k1
       case measure => have := HK1.out; omega
       case rel => exact ⟨(wrap64 ((wrap64 (x1_1 + 1)) + 1)), (wrap64 (x5_1 + 1)), (by first | rfl | (simp; done) | (simp [*]; done)), (by first | rfl | (simp; done) | (simp [*]; done)), H', ⟨by have := HK1.out; omega⟩, by repeat (first | exact Drawn0.refl _ | apply Drawn0.step)⟩
      ·rw [if_neg c6] at H
       have c6b0 : (((rd_T57 l0 x5_1).f1) == (wrap64 (x1_1 + 1))) = false := beq_eq_false_iff_ne.mpr c6
       have c6b1 : (((rd_T57 l0 x5_1).f1) != (wrap64 (x1_1 + 1))) = true := bne_iff_ne.mpr c6
       obtain rfl := Option.some.inj H
       have p176 : 0 ≤ (x5_1 : Int) := of_decide_eq_true (by first | (with_reducible assumption) | assumption)
       have q176 : x5_1 < (l0.length : Int) := of_decide_eq_true (by first | (with_reducible assumption) | assumption)
       obtain ⟨ad176, e176, hx176_0, hx176_1⟩ := at_T57 HR0.out x5_1 p176 q176
       cases e176
       replace p176 := eq_true p176
       replace q176 := eq_true q176
       have p177 : 0 ≤ (x5_1 : Int) := of_decide_eq_true (by first | (with_reducible assumption) | assumption)
       have q177 : x5_1 < (l0.length : Int) := of_decide_eq_true (by first | (with_reducible assumption) | assumption)
       obtain ⟨ad177, e177, hx177_0, hx177_1⟩ := at_T57 HR0.out x5_1 p177 q177
       obtain rfl : ad176 = ad177 := (by injection e177)
       replace p177 := eq_true p177
       replace q177 := eq_true q177
       go_wp2
       go_ret
       exact ⟨by first | rfl | (simp; done) | (simp [*]; done), by repeat (first | exact Drawn0.refl _ | apply Drawn0.step)⟩
     ·rw [if_neg c5] at H
      have c5b0 : (((rd_T57 l0 x5_1).f0) == x1_1) = false := beq_eq_false_iff_ne.mpr c5
      have c5b1 : (((rd_T57 l0 x5_1).f0) != x1_1) = true := bne_iff_ne.mpr c5
      obtain rfl := Option.some.inj H
      have p176 : 0 ≤ (x5_1 : Int) := of_decide_eq_true (by first | (with_reducible assumption) | assumption)
      have q176 : x5_1 < (l0.length : Int) := of_decide_eq_true (by first | (with_reducible assumption) | assumption)
      obtain ⟨ad176, e176, hx176_0, hx176_1⟩ := at_T57 HR0.out x5_1 p176 q176
      cases e176
      replace p176 := eq_true p176
      replace q176 := eq_true q176
      go_wp2
      go_ret
      exact ⟨by first | rfl | (simp; done) | (simp [*]; done), by repeat (first | exact Drawn0.refl _ | apply Drawn0.step)⟩
    ·rw [if_neg c4] at H
     exact absurd H (by simp)
   ·rw [if_neg c3] at H
    have c3b0 : decide (x5_1 < (l0.length : Int)) = false := decide_eq_false c3
    clear c3
    obtain rfl := Option.some.inj H
    go_wp2
    go_ret
    exact ⟨by first | rfl | (simp; done) | (simp [*]; done), by repeat (first | exact Drawn0.refl _ | apply Drawn0.step)⟩

end Go.Proofs.YtomfhenoblfckaaDoor.PT
