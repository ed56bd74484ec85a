import Derived.Test.YtbhklkpjjpkblaaDoorHShort
import Derived.Test.YtbhklkpjjpkblaaDoorPIx0
import Derived.Test.YtbhklkpjjpkblaaDoorPIx1
import Derived.Test.YtbhklkpjjpkblaaDoorPIx8
import Derived.Test.YtbhklkpjjpkblaaDoorPIx10
namespace Go.Proofs.YtbhklkpjjpkblaaDoor.PI
open Go.RowKit Go.Proofs.YtbhklkpjjpkblaaDoorW.PrintWords Go.Proofs.YtbhklkpjjpkblaaDoorW.PrintLast Go.Proofs.YtbhklkpjjpkblaaDoorW.PrintMore Go.Proofs.YtbhklkpjjpkblaaDoorW.WordsB Go.Proofs.YtbhklkpjjpkblaaDoorW.GlM Go.Proofs.YtbhklkpjjpkblaaDoorW.Short
attribute [local go_sem] max2_int min2_int max_two min_two max_three min_three max_four min_four
set_option linter.unusedVariables false
set_option linter.unusedSimpArgs false
attribute [local go_sem high] eqA92
mutual
def spec_l3Attrs.l0 : Nat → List (S74) → Int → List (S92) → Int → Option ((List (S92)) × Bool)
 | 0, _, _, _, _ => none
 | k + 1, x0, x1, x6, x7 => if 0 ≤ x1 then (if x1 < (x0.length : Int) then (if x7 < (((rd_T74 x0 x1).f3).length : Int) then (if 0 ≤ x7 then ((spec_Split.f k ((rd_T76 ((rd_T74 x0 x1).f3) x7).f0)).bind fun bt225 => (if bt225.1.toList = ([120, 109, 108, 110, 115] : List UInt8) then (spec_l3Attrs.j1 k x0 x1 x6 x7 bt225.1 bt225.2.1 true) else (if bt225.1.toList = ([] : List UInt8) then (spec_l3Attrs.j1 k x0 x1 x6 x7 bt225.1 bt225.2.1 (bt225.2.1.toList == ([120, 109, 108, 110, 115] : List UInt8))) else (spec_l3Attrs.j1 k x0 x1 x6 x7 bt225.1 bt225.2.1 false)))) else (none)) else (some (x6, true))) else (none)) else (none)
def spec_l3Attrs.j1 : Nat → List (S74) → Int → List (S92) → Int → ByteArray → ByteArray → Bool → Option ((List (S92)) × Bool)
 | 0, _, _, _, _, _, _, _ => none
 | k + 1, x0, x1, x6, x7, x8, x9, x49 => if x49 = true then (spec_l3Attrs.l0 k x0 x1 x6 (wrap64 (x7 + 1))) else (if x8.toList = ([] : List UInt8) then (spec_l3Attrs.j2 k x0 x1 x6 x7 (⟨#[]⟩ : ByteArray) x9) else ((spec_l3Bound.f k x0 x1 x8).bind fun bt229 => (if bt229.2 = true then (spec_l3Attrs.j2 k x0 x1 x6 x7 bt229.1 x9) else (some (([] : List (S92)), false)))))
def spec_l3Attrs.j2 : Nat → List (S74) → Int → List (S92) → Int → ByteArray → ByteArray → Option ((List (S92)) × Bool)
 | 0, _, _, _, _, _, _ => none
 | k + 1, x0, x1, x6, x7, x229000, x229001 => spec_l3Attrs.l1 k x0 x1 x6 x7 0 x229000 x229001
def spec_l3Attrs.l1 : Nat → List (S74) → Int → List (S92) → Int → Int → ByteArray → ByteArray → Option ((List (S92)) × Bool)
 | 0, _, _, _, _, _, _, _ => none
 | k + 1, x0, x1, x6, x7, x14, x229000, x229001 => if x14 < (x6.length : Int) then (if 0 ≤ x14 then (if ((((rd_T92 x6 x14).f0).toList) == x229000.toList && ((((rd_T92 x6 x14).f1).toList) == x229001.toList)) = true then (some (([] : List (S92)), false)) else (spec_l3Attrs.l1 k x0 x1 x6 x7 (wrap64 (x14 + 1)) x229000 x229001)) else (none)) else (if x6.length < 4398046511104 then (spec_l3Attrs.l0 k x0 x1 (x6 ++ [(⟨x229000, x229001⟩ : S92)]) (wrap64 (x7 + 1))) else (none))
end
def spec_l3Attrs.f (k : Nat) (l0 : List (S74)) (a1 : Int) : Option ((List (S92)) × Bool) := spec_l3Attrs.l0 k l0 a1 (([] : List (S92))) 0
set_option maxHeartbeats 8000000 in
set_option maxRecDepth 100000 in
theorem spec_l3Attrs.calls (k : Nat) (A0 : Option Addr) (c0 : Nat) (l0 : List (S74)) (a1 : Int) (r1 : List (S92)) (r2 : Bool) (w : World) (hr0 : Kd.C k74 w A0 l0.length l0) (hc0 : l0.length ≤ c0) (h : spec_l3Attrs.f k l0 a1 = some (r1, r2)) :
  Calls Tryd.prog 67 #[.slice A0 l0.length c0, .int .i64 a1] w fun e w' => ∃ v0_ : Value, e = .returned (.tuple #[v0_, .bool r2]) ∧ Kd.R k92 92 w' w.heap.size (fun _ => True) v0_ r1 ∧ Below w.heap.size w w' := by
 have hu92 := Tryd.underlying92
 have HR0 := Aside0.mk hr0
 have HC0 := Aside0.mk hc0
 clear hr0 hc0
 have HB := Aside0.mk (Below.refl w.heap.size w)
 have H : (spec_l3Attrs.l0 k l0 a1 (([] : List (S92))) 0) = some (r1, r2) := h
 clear h
 obtain ⟨y219, hy219⟩ : ∃ y_ : List (S92), y_ = (([] : List (S92))) := ⟨_, rfl⟩
 replace H : (spec_l3Attrs.l0 k l0 a1 y219 0) = some (r1, r2) := by first | (rw [hy219]; with_reducible exact H) | (have H2_ := (Option.bind_some _ _).symm.trans H; rw [hy219]; with_reducible exact H2_) | (have H2_ := (Option.bind_some _ _).symm.trans H; with_reducible exact H2_) | with_reducible exact H | (rw [hy219]; exact H) | exact H
 have Ny219 := Aside0.mk hy219
 clear hy219
 have H' := Aside0.mk H
 clear H
 go_enter Tryd.func67, Tryd.ntmps67
 go_wp2_with (first | ((with_reducible refine gate_dst (N := 15) rfl ?_); refine Kd.R_lit k92 _ 92 ?hg (N := 15) ?hd (xs := ([] : List (S92))) (inner := []) (ok := fun _ => True) (okp := fun _ => True) ?hr ?hp (fun _ hk => hk) trivial (Below.refl _ _) (Nat.le_refl _) (by simp) ?_; (case hd => rfl); (case hg => rfl); (case hr => first | (go_simp; done) | (go_simp; rfl)); (case hp => exact (Reps.none _ _)); intro v220 w3 ho4 hb hg_ hnew_; clear hg_ hnew_; (first | rw [← Ny219.out] at ho4 | (simp only [Int.reduceToNat] at ho4; rw [← Ny219.out] at ho4)); have n0_ := Aside0.mk (Kd.R_lower ho4 (below_size aB)); have n1_ := Aside0.mk (below_step aB hb); clear HB; have HO221 := n0_; have HB := n1_; clear n0_ n1_; clear hb ho4))
 repeat (go_quiet (first | ((with_reducible refine gate_dst (N := 15) rfl ?_); refine Kd.R_lit k92 _ 92 ?hg (N := 15) ?hd (xs := ([] : List (S92))) (inner := []) (ok := fun _ => True) (okp := fun _ => True) ?hr ?hp (fun _ hk => hk) trivial (Below.refl _ _) (Nat.le_refl _) (by simp) ?_; (case hd => rfl); (case hg => rfl); (case hr => first | (go_simp; done) | (go_simp; rfl)); (case hp => exact (Reps.none _ _)); intro v220 w3 ho4 hb hg_ hnew_; clear hg_ hnew_; (first | rw [← Ny219.out] at ho4 | (simp only [Int.reduceToNat] at ho4; rw [← Ny219.out] at ho4)); have n0_ := Aside0.mk (Kd.R_lower ho4 (below_size aB)); have n1_ := Aside0.mk (below_step aB hb); clear HB; have HO221 := n0_; have HB := n1_; clear n0_ n1_; clear hb ho4)); try go_wp2_with (first | ((with_reducible refine gate_dst (N := 15) rfl ?_); refine Kd.R_lit k92 _ 92 ?hg (N := 15) ?hd (xs := ([] : List (S92))) (inner := []) (ok := fun _ => True) (okp := fun _ => True) ?hr ?hp (fun _ hk => hk) trivial (Below.refl _ _) (Nat.le_refl _) (by simp) ?_; (case hd => rfl); (case hg => rfl); (case hr => first | (go_simp; done) | (go_simp; rfl)); (case hp => exact (Reps.none _ _)); intro v220 w3 ho4 hb hg_ hnew_; clear hg_ hnew_; (first | rw [← Ny219.out] at ho4 | (simp only [Int.reduceToNat] at ho4; rw [← Ny219.out] at ho4)); have n0_ := Aside0.mk (Kd.R_lower ho4 (below_size aB)); have n1_ := Aside0.mk (below_step aB hb); clear HB; have HO221 := n0_; have HB := n1_; clear n0_ n1_; clear hb ho4)))
 go_loopg [6, 7] k (fun kq v6 v7 w' => ∃ (x6_1 : List (S92)) (x7_1 : Int), v7 = .int .i64 x7_1 ∧ Aside0 (spec_l3Attrs.l0 kq l0 a1 x6_1 x7_1 = some (r1, r2)) ∧ Aside0 (kq ≤ k) ∧ Aside0 (Kd.R k92 92 w' w.heap.size (fun _ => True) v6 x6_1) ∧ Aside0 (Below w.heap.size w w'))
 case atStart => exact ⟨(y219), (0), aR, H', ⟨Nat.le_refl _⟩, ⟨aP HO221.out⟩, ⟨aB⟩⟩
 case round =>
  clear H'
  try clear p2
  obtain ⟨x6_1, x7_1, rfl, HA, HK1, HO_6, HB⟩ := hrel
  cases gk with
  | zero => exact absurd HA.out (by simp [spec_l3Attrs.l0])
  | succ k1 =>
   have H := HA.out
   clear HA
   simp only [spec_l3Attrs.l0] at H
   by_cases c5 : 0 ≤ a1
   rotate_left
   ·rw [if_neg c5] at H
    exact absurd H (by simp)
   rw [if_pos c5] at H
   have c5b0 : decide (0 ≤ a1) = true := decide_eq_true c5
   clear c5
   by_cases c6 : a1 < (l0.length : Int)
   rotate_left
   ·rw [if_neg c6] at H
    exact absurd H (by simp)
   rw [if_pos c6] at H
   have c6b0 : decide (a1 < (l0.length : Int)) = true := decide_eq_true c6
   clear c6
   by_cases c7 : x7_1 < (((rd_T74 l0 a1).f3).length : Int)
   rotate_left
   ·rw [if_neg c7] at H
    have c7b0 : decide (x7_1 < (((rd_T74 l0 a1).f3).length : Int)) = false := decide_eq_false c7
    clear c7
    simp only [Option.some.injEq, Prod.mk.injEq] at H
    obtain ⟨rfl, rfl⟩ := H
    have p222 : 0 ≤ (a1 : Int) := aD
    have q222 : a1 < (l0.length : Int) := aD
    obtain ⟨ad222, A222_3, c222_3, e222, hx222_0, hx222_1, hx222_2, hx222_3, hl222_3, hi222_3⟩ := at_T74 HR0.out a1 p222 q222
    cases e222
    replace hx222_0 := (HB.out.cell (World.block_lt_of_cell? w _ hx222_0)).trans hx222_0
    replace hx222_1 := (HB.out.cell (World.block_lt_of_cell? w _ hx222_1)).trans hx222_1
    replace hx222_2 := (HB.out.cell (World.block_lt_of_cell? w _ hx222_2)).trans hx222_2
    replace hx222_3 := (HB.out.cell (World.block_lt_of_cell? w _ hx222_3)).trans hx222_3
    have HR222_3 := Aside0.mk hi222_3
    have HC222_3 := Aside0.mk hl222_3
    clear hi222_3 hl222_3
    replace p222 := eq_true p222
    replace q222 := eq_true q222
    go_wp2
    repeat (go_quiet (fail); try go_wp2)
    go_ret2
    exact ⟨_, by first | rfl | (simp only [aX1, aX2]; rfl) | (simp [*] <;> rfl), by (with_reducible repeat (first | apply Kd.R_alloc | apply Kd.R_drewN | apply Kd.R_drew)); exact HO_6.out, aB⟩
   rw [if_pos c7] at H
   have c7b0 : decide (x7_1 < (((rd_T74 l0 a1).f3).length : Int)) = true := decide_eq_true c7
   clear c7
   by_cases c8 : 0 ≤ x7_1
   rotate_left
   ·rw [if_neg c8] at H
    exact absurd H (by simp)
   rw [if_pos c8] at H
   have c8b0 : decide (0 ≤ x7_1) = true := decide_eq_true c8
   clear c8
   replace H := Option.bind_eq_some_iff.mp H
   obtain ⟨⟨t225, t226, t227⟩, A90, H⟩ := H
   replace H : (if t225.toList = ([120, 109, 108, 110, 115] : List UInt8) then (spec_l3Attrs.j1 k1 l0 a1 x6_1 x7_1 t225 t226 true) else (if t225.toList = ([] : List UInt8) then (spec_l3Attrs.j1 k1 l0 a1 x6_1 x7_1 t225 t226 (t226.toList == ([120, 109, 108, 110, 115] : List UInt8))) else (spec_l3Attrs.j1 k1 l0 a1 x6_1 x7_1 t225 t226 false))) = some (r1, r2) := H
   have A9 := Aside0.mk A90
   clear A90
   have HC10 := Aside0.mk H
   clear H
   have p222 : 0 ≤ (a1 : Int) := aD
   have q222 : a1 < (l0.length : Int) := aD
   obtain ⟨ad222, A222_3, c222_3, e222, hx222_0, hx222_1, hx222_2, hx222_3, hl222_3, hi222_3⟩ := at_T74 HR0.out a1 p222 q222
   cases e222
   replace hx222_0 := (HB.out.cell (World.block_lt_of_cell? w _ hx222_0)).trans hx222_0
   replace hx222_1 := (HB.out.cell (World.block_lt_of_cell? w _ hx222_1)).trans hx222_1
   replace hx222_2 := (HB.out.cell (World.block_lt_of_cell? w _ hx222_2)).trans hx222_2
   replace hx222_3 := (HB.out.cell (World.block_lt_of_cell? w _ hx222_3)).trans hx222_3
   have HR222_3 := Aside0.mk hi222_3
   have HC222_3 := Aside0.mk hl222_3
   clear hi222_3 hl222_3
   replace p222 := eq_true p222
   replace q222 := eq_true q222
   have p223 : 0 ≤ (a1 : Int) := aD
   have q223 : a1 < (l0.length : Int) := aD
   obtain ⟨ad223, A223_3, c223_3, e223, hx223_0, hx223_1, hx223_2, hx223_3, hl223_3, hi223_3⟩ := at_T74 HR0.out a1 p223 q223
   obtain rfl : ad222 = ad223 := (by injection e223)
   replace hx223_0 := (HB.out.cell (World.block_lt_of_cell? w _ hx223_0)).trans hx223_0
   replace hx223_1 := (HB.out.cell (World.block_lt_of_cell? w _ hx223_1)).trans hx223_1
   replace hx223_2 := (HB.out.cell (World.block_lt_of_cell? w _ hx223_2)).trans hx223_2
   replace hx223_3 := (HB.out.cell (World.block_lt_of_cell? w _ hx223_3)).trans hx223_3
   have HR223_3 := Aside0.mk hi223_3
   have HC223_3 := Aside0.mk hl223_3
   clear hi223_3 hl223_3
   replace p223 := eq_true p223
   replace q223 := eq_true q223
   have ea_ := Option.some.inj (hx222_3.symm.trans hx223_3)
   injection ea_ with ea_ en_ ec_
   subst ea_
   subst ec_
   clear en_
   have p224 : 0 ≤ (x7_1 : Int) := aD
   have q224 : x7_1 < (((rd_T74 l0 a1).f3).length : Int) := aD
   obtain ⟨ad224, e224, hx224_0, hx224_1⟩ := at_T76 HR223_3.out x7_1 p224 q224
   cases e224
   replace hx224_0 := (HB.out.cell (World.block_lt_of_cell? w _ hx224_0)).trans hx224_0
   replace hx224_1 := (HB.out.cell (World.block_lt_of_cell? w _ hx224_1)).trans hx224_1
   replace p224 := eq_true p224
   replace q224 := eq_true q224
   go_upto_region 6 with (first | (go_at_call 70; (with_reducible refine (spec_Split.calls k1 ((rd_T76 ((rd_T74 l0 a1).f3) x7_1).f0) t225 t226 t227 _ A9.out).mono ?_); rintro e w' ⟨rfl, ⟨nd, rfl⟩⟩; (try first | exact aZ1 | exact aZ2)))
   repeat (go_quiet (first | (go_at_call 70; (with_reducible refine (spec_Split.calls k1 ((rd_T76 ((rd_T74 l0 a1).f3) x7_1).f0) t225 t226 t227 _ A9.out).mono ?_); rintro e w' ⟨rfl, ⟨nd, rfl⟩⟩; (try first | exact aZ1 | exact aZ2))); go_upto_region 6 with (first | (go_at_call 70; (with_reducible refine (spec_Split.calls k1 ((rd_T76 ((rd_T74 l0 a1).f3) x7_1).f0) t225 t226 t227 _ A9.out).mono ?_); rintro e w' ⟨rfl, ⟨nd, rfl⟩⟩; (try first | exact aZ1 | exact aZ2))))
   (try simp only [Act.put, List.setIfInBounds_toArray, List.set_cons_zero, List.set_cons_succ])
   go_cut [49] (fun v49 wc => ∃ (kq : Nat) (x49_9 : Bool), v49 = .bool x49_9 ∧ Aside0 (spec_l3Attrs.j1 kq l0 a1 x6_1 x7_1 t225 t226 x49_9 = some (r1, r2)) ∧ Aside0 (kq ≤ k1) ∧ Aside0 (Kd.R k92 92 wc w.heap.size (fun _ => True) u6 x6_1) ∧ Aside0 (Below w.heap.size w wc))
   case first =>
    have H := HC10.out
    clear HC10
    by_cases c11 : t225.toList = ([120, 109, 108, 110, 115] : List UInt8)
    ·rw [if_pos c11] at H
     have c11b0 : (t225.toList == ([120, 109, 108, 110, 115] : List UInt8)) = true := beq_iff_eq.mpr c11
     have c11b1 : (t225.toList != ([120, 109, 108, 110, 115] : List UInt8)) = false := bne_eq_false_iff_eq.mpr c11
     clear c11
     (first | rw [c11b0] | (simp only [i64_w, i32_w]; rw [c11b0]) | skip)
     have H' := Aside0.mk H
     clear H
     go_wp2
     repeat (go_quiet (fail); try go_wp2)
     go_meet
     case rel => exact ⟨_, (true), aR, H', ⟨by have := HK1.out; first | omega | exact Nat.le_refl _⟩, ⟨aP HO_6.out⟩, ⟨aB⟩⟩
    rw [if_neg c11] at H
    have c11b0 : (t225.toList == ([120, 109, 108, 110, 115] : List UInt8)) = false := beq_eq_false_iff_ne.mpr c11
    have c11b1 : (t225.toList != ([120, 109, 108, 110, 115] : List UInt8)) = true := bne_iff_ne.mpr c11
    (first | rw [c11b0] | (simp only [i64_w, i32_w]; rw [c11b0]) | skip)
    by_cases c12 : t225.toList = ([] : List UInt8)
    rotate_left
    ·rw [if_neg c12] at H
     have c12b0 : (t225.toList == ([] : List UInt8)) = false := beq_eq_false_iff_ne.mpr c12
     have c12b1 : (t225.toList != ([] : List UInt8)) = true := bne_iff_ne.mpr c12
     have c12b2 : (t225).toList.isEmpty = false := by (first | exact (List.isEmpty_iff.mpr (eq_of_beq c12b0)) | exact (Bool.eq_false_iff.mpr (fun h_ => by rw [List.isEmpty_iff.mp h_] at c12b0; cases c12b0)))
     have H' := Aside0.mk H
     clear H
     go_wp2
     repeat (go_quiet (fail); try go_wp2)
     go_meet
     case rel => exact ⟨_, (false), aR, H', ⟨by have := HK1.out; first | omega | exact Nat.le_refl _⟩, ⟨aP HO_6.out⟩, ⟨aB⟩⟩
    rw [if_pos c12] at H
    have c12b0 : (t225.toList == ([] : List UInt8)) = true := beq_iff_eq.mpr c12
    have c12b1 : (t225.toList != ([] : List UInt8)) = false := bne_eq_false_iff_eq.mpr c12
    have c12b2 : (t225).toList.isEmpty = true := by (first | exact (List.isEmpty_iff.mpr (eq_of_beq c12b0)) | exact (Bool.eq_false_iff.mpr (fun h_ => by rw [List.isEmpty_iff.mp h_] at c12b0; cases c12b0)))
    clear c12
    have H' := Aside0.mk H
    clear H
    go_wp2
    repeat (go_quiet (fail); try go_wp2)
    go_meet
    case rel => exact ⟨_, ((t226.toList == ([120, 109, 108, 110, 115] : List UInt8))), aR, H', ⟨by have := HK1.out; first | omega | exact Nat.le_refl _⟩, ⟨aP HO_6.out⟩, ⟨aB⟩⟩
   case rest =>
    clear HC10
    try clear c1
    try clear c2
    try clear p2
    try clear q2
    try clear hx2
    try clear c5
    try clear c5b0
    try clear c6
    try clear c6b0
    try clear c7
    try clear c7b0
    try clear c8
    try clear c8b0
    try clear c11
    try clear c11b0
    try clear c11b1
    try clear c12
    try clear c12b0
    try clear c12b1
    try clear hx222_0
    try clear hx222_1
    try clear hx222_2
    try clear hx222_3
    try clear hx223_0
    try clear hx223_1
    try clear hx223_2
    try clear hx223_3
    try clear hx224_0
    try clear hx224_1
    try clear p2
    try clear p222
    try clear p223
    try clear p224
    try clear q222
    try clear q223
    try clear q224
    obtain ⟨kq, x49_9, rfl, HA, HJ9, HO_6, HB⟩ := hcut
    cases kq with
    | zero => exact absurd HA.out (by simp [spec_l3Attrs.j1])
    | succ kj9 =>
     have H := HA.out
     clear HA
     simp only [spec_l3Attrs.j1] at H
     by_cases c13 : x49_9 = true
     ·subst c13
      have H1 : (spec_l3Attrs.l0 kj9 l0 a1 x6_1 (wrap64 (x7_1 + 1))) = some (r1, r2) := by rw [if_pos rfl] at H; exact H
      clear H
      have H := H1
      clear H1
      have H' := Aside0.mk H
      clear H
      go_wp2
      repeat (go_quiet (fail); try go_wp2)
      go_roundg kj9
      case measure => have := HK1.out; have := HJ9.out; omega
      case rel => exact ⟨(x6_1), (wrap64 (x7_1 + 1)), aR, H', ⟨by have := HK1.out; have := HJ9.out; omega⟩, ⟨aP HO_6.out⟩, ⟨aB⟩⟩
     replace c13 := Bool.eq_false_iff.mpr c13
     subst c13
     have H1 : (if t225.toList = ([] : List UInt8) then (spec_l3Attrs.j2 kj9 l0 a1 x6_1 x7_1 (⟨#[]⟩ : ByteArray) t226) else ((spec_l3Bound.f kj9 l0 a1 t225).bind fun bt229 => (if bt229.2 = true then (spec_l3Attrs.j2 kj9 l0 a1 x6_1 x7_1 bt229.1 t226) else (some (([] : List (S92)), false))))) = some (r1, r2) := by rw [if_neg (show ¬ (false = true) by decide)] at H; exact H
     clear H
     have H := H1
     clear H1
     have HC14 := Aside0.mk H
     clear H
     go_upto_if 53 with (first | ((with_reducible refine gate_dst (N := 11) rfl ?_); refine box_event ?hg (N := 11) ?hd (cs := #[.string (⟨#[]⟩ : ByteArray), .string (⟨#[]⟩ : ByteArray)]) (t := 92) ?hr ?_; (case hd => rfl); (case hg => rfl); (case hr => first | (go_simp; done) | (go_simp; rfl)); intro gb228 hg w15 hbox hb; have n0_ := Aside0.mk (Kd.R_below (Kd.R_elderB (aP HO_6.out) gb228 (Nat.le_of_eq hg.symm)) hb); have n1_ := Aside0.mk (below_step aB hb); have n2_ := Aside0.mk (hbox); have n3_ := Aside0.mk ((by rw [hg]; exact (below_size aB) : w.heap.size ≤ gb228)); have n4_ := Aside0.mk ((by rw [hg]; exact (below_size aB) : w.heap.size ≤ gb228)); clear HO_6; clear HB; have HO_6 := n0_; have HB := n1_; have BK228 := n2_; have GW228 := n3_; have GE228 := n4_; clear n0_ n1_ n2_ n3_ n4_; clear hb hbox hg; have hcz16_0 : w15.cell? ⟨gb228, 0, none⟩ = some (.string (⟨#[]⟩ : ByteArray)) := (blk_cell BK228.out 0).trans rfl; have hcz16_1 : w15.cell? ⟨gb228, 1, none⟩ = some (.string (⟨#[]⟩ : ByteArray)) := (blk_cell BK228.out 1).trans rfl; have hfz16_0 := blk_frozen BK228.out 0; have hfz16_1 := blk_frozen BK228.out 1))
     repeat (go_quiet (first | ((with_reducible refine gate_dst (N := 11) rfl ?_); refine box_event ?hg (N := 11) ?hd (cs := #[.string (⟨#[]⟩ : ByteArray), .string (⟨#[]⟩ : ByteArray)]) (t := 92) ?hr ?_; (case hd => rfl); (case hg => rfl); (case hr => first | (go_simp; done) | (go_simp; rfl)); intro gb228 hg w15 hbox hb; have n0_ := Aside0.mk (Kd.R_below (Kd.R_elderB (aP HO_6.out) gb228 (Nat.le_of_eq hg.symm)) hb); have n1_ := Aside0.mk (below_step aB hb); have n2_ := Aside0.mk (hbox); have n3_ := Aside0.mk ((by rw [hg]; exact (below_size aB) : w.heap.size ≤ gb228)); have n4_ := Aside0.mk ((by rw [hg]; exact (below_size aB) : w.heap.size ≤ gb228)); clear HO_6; clear HB; have HO_6 := n0_; have HB := n1_; have BK228 := n2_; have GW228 := n3_; have GE228 := n4_; clear n0_ n1_ n2_ n3_ n4_; clear hb hbox hg; have hcz16_0 : w15.cell? ⟨gb228, 0, none⟩ = some (.string (⟨#[]⟩ : ByteArray)) := (blk_cell BK228.out 0).trans rfl; have hcz16_1 : w15.cell? ⟨gb228, 1, none⟩ = some (.string (⟨#[]⟩ : ByteArray)) := (blk_cell BK228.out 1).trans rfl; have hfz16_0 := blk_frozen BK228.out 0; have hfz16_1 := blk_frozen BK228.out 1)); go_upto_if 53 with (first | ((with_reducible refine gate_dst (N := 11) rfl ?_); refine box_event ?hg (N := 11) ?hd (cs := #[.string (⟨#[]⟩ : ByteArray), .string (⟨#[]⟩ : ByteArray)]) (t := 92) ?hr ?_; (case hd => rfl); (case hg => rfl); (case hr => first | (go_simp; done) | (go_simp; rfl)); intro gb228 hg w15 hbox hb; have n0_ := Aside0.mk (Kd.R_below (Kd.R_elderB (aP HO_6.out) gb228 (Nat.le_of_eq hg.symm)) hb); have n1_ := Aside0.mk (below_step aB hb); have n2_ := Aside0.mk (hbox); have n3_ := Aside0.mk ((by rw [hg]; exact (below_size aB) : w.heap.size ≤ gb228)); have n4_ := Aside0.mk ((by rw [hg]; exact (below_size aB) : w.heap.size ≤ gb228)); clear HO_6; clear HB; have HO_6 := n0_; have HB := n1_; have BK228 := n2_; have GW228 := n3_; have GE228 := n4_; clear n0_ n1_ n2_ n3_ n4_; clear hb hbox hg; have hcz16_0 : w15.cell? ⟨gb228, 0, none⟩ = some (.string (⟨#[]⟩ : ByteArray)) := (blk_cell BK228.out 0).trans rfl; have hcz16_1 : w15.cell? ⟨gb228, 1, none⟩ = some (.string (⟨#[]⟩ : ByteArray)) := (blk_cell BK228.out 1).trans rfl; have hfz16_0 := blk_frozen BK228.out 0; have hfz16_1 := blk_frozen BK228.out 1)))
     (try simp only [Act.put, List.setIfInBounds_toArray, List.set_cons_zero, List.set_cons_succ])
     go_cut [] (fun wc => ∃ (kq : Nat) (x229000_13 : ByteArray), Aside0 (spec_l3Attrs.j2 kq l0 a1 x6_1 x7_1 x229000_13 t226 = some (r1, r2)) ∧ Aside0 (kq ≤ kj9) ∧ Aside0 (Kd.R k92 92 wc w.heap.size (fun k_ => k_ ≠ gb228) u6 x6_1) ∧ Aside0 (wc.heap[gb228]? = some (.cells #[.string x229000_13, .string t226] 92 (0, 0))) ∧ Aside0 (Below w.heap.size w wc))
     case first =>
      have H := HC14.out
      clear HC14
      by_cases c17 : t225.toList = ([] : List UInt8)
      ·rw [if_pos c17] at H
       have c17b0 : (t225.toList == ([] : List UInt8)) = true := beq_iff_eq.mpr c17
       have c17b1 : (t225.toList != ([] : List UInt8)) = false := bne_eq_false_iff_eq.mpr c17
       have c17b2 : (t225).toList.isEmpty = true := by (first | exact (List.isEmpty_iff.mpr (eq_of_beq c17b0)) | exact (Bool.eq_false_iff.mpr (fun h_ => by rw [List.isEmpty_iff.mp h_] at c17b0; cases c17b0)))
       clear c17
       (first | rw [c17b0] | (simp only [i64_w, i32_w]; rw [c17b0]) | rw [c17b2] | skip)
       have H' := Aside0.mk H
       clear H
       go_wp2
       repeat (go_quiet (fail); try go_wp2)
       go_meet
       case rel => exact ⟨_, ((⟨#[]⟩ : ByteArray)), H', ⟨by have := HK1.out; have := HJ9.out; first | omega | exact Nat.le_refl _⟩, ⟨by (with_reducible repeat (first | apply Kd.R_alloc | apply Kd.R_drewN | apply Kd.R_drew)); exact Kd.R_mono (Kd.R_far (p := ⟨gb228, 1, none⟩) (Kd.R_far (p := ⟨gb228, 0, none⟩) (Kd.R_mono HO_6.out (fun k_ hk => (⟨hk, hk.2⟩ : _ ∧ k_ ≠ gb228))) (fun _ hk => hk.2) (.string (⟨#[]⟩ : ByteArray))) (fun _ hk => hk.2) (.string t226)) (fun _ hk => hk.1.2)⟩, ⟨by (with_reducible repeat (first | apply d1 | apply d2 | apply d3)); refine blk_put (cs := #[.string (⟨#[]⟩ : ByteArray), .string (⟨#[]⟩ : ByteArray)]) ?_ 1 _ rfl; (with_reducible repeat (first | apply d1 | apply d2 | apply d3)); refine blk_put (cs := #[.string (⟨#[]⟩ : ByteArray), .string (⟨#[]⟩ : ByteArray)]) ?_ 0 _ rfl; (with_reducible repeat (first | apply d1 | apply d2 | apply d3)); exact BK228.out⟩, ⟨aE⟩⟩
      rw [if_neg c17] at H
      have c17b0 : (t225.toList == ([] : List UInt8)) = false := beq_eq_false_iff_ne.mpr c17
      have c17b1 : (t225.toList != ([] : List UInt8)) = true := bne_iff_ne.mpr c17
      have c17b2 : (t225).toList.isEmpty = false := by (first | exact (List.isEmpty_iff.mpr (eq_of_beq c17b0)) | exact (Bool.eq_false_iff.mpr (fun h_ => by rw [List.isEmpty_iff.mp h_] at c17b0; cases c17b0)))
      (first | rw [c17b0] | (simp only [i64_w, i32_w]; rw [c17b0]) | rw [c17b2] | skip)
      replace H := Option.bind_eq_some_iff.mp H
      obtain ⟨⟨t229, t230⟩, A180, H⟩ := H
      replace H : (if t230 = true then (spec_l3Attrs.j2 kj9 l0 a1 x6_1 x7_1 t229 t226) else (some (([] : List (S92)), false))) = some (r1, r2) := H
      have A18 := Aside0.mk A180
      clear A180
      by_cases c19 : t230 = true
      rotate_left
      ·replace c19 := Bool.eq_false_iff.mpr c19
       subst c19
       have H1 : (some (([] : List (S92)), false)) = some (r1, r2) := by rw [if_neg (show ¬ (false = true) by decide)] at H; exact H
       clear H
       have H := H1
       clear H1
       simp only [Option.some.injEq, Prod.mk.injEq] at H
       obtain ⟨rfl, rfl⟩ := H
       go_wp2_with (first | (go_at_call 58; (with_reducible refine (spec_l3Bound.calls kj9 _ _ l0 a1 t225 t229 false _ ?side1 ?side2 A18.out).mono ?_); (case side1 => exact Kd.C_below HR0.out aE); (case side2 => exact HC0.out); rintro e w' ⟨rfl, ⟨nd, rfl⟩⟩; (try first | exact aZ1 | exact aZ2)))
       repeat (go_quiet (first | (go_at_call 58; (with_reducible refine (spec_l3Bound.calls kj9 _ _ l0 a1 t225 t229 false _ ?side1 ?side2 A18.out).mono ?_); (case side1 => exact Kd.C_below HR0.out aE); (case side2 => exact HC0.out); rintro e w' ⟨rfl, ⟨nd, rfl⟩⟩; (try first | exact aZ1 | exact aZ2))); try go_wp2_with (first | (go_at_call 58; (with_reducible refine (spec_l3Bound.calls kj9 _ _ l0 a1 t225 t229 false _ ?side1 ?side2 A18.out).mono ?_); (case side1 => exact Kd.C_below HR0.out aE); (case side2 => exact HC0.out); rintro e w' ⟨rfl, ⟨nd, rfl⟩⟩; (try first | exact aZ1 | exact aZ2))))
       go_ret2
       exact ⟨_, by first | rfl | (simp only [aX1, aX2]; rfl) | (simp [*] <;> rfl), by first | exact Kd.R_nil _ _ _ _ _ | exact Kd.N_nil _ _ _ _ _ | exact Kd.V_nil _ _ _ _ _ | exact Kd.Q_nil _ _ _ _ _ | exact Kd.S_nil _ _ _ _ _, aE⟩
      subst c19
      have H1 : (spec_l3Attrs.j2 kj9 l0 a1 x6_1 x7_1 t229 t226) = some (r1, r2) := by rw [if_pos rfl] at H; exact H
      clear H
      have H := H1
      clear H1
      have H' := Aside0.mk H
      clear H
      go_wp2_with (first | (go_at_call 58; (with_reducible refine (spec_l3Bound.calls kj9 _ _ l0 a1 t225 t229 true _ ?side1 ?side2 A18.out).mono ?_); (case side1 => exact Kd.C_below HR0.out aE); (case side2 => exact HC0.out); rintro e w' ⟨rfl, ⟨nd, rfl⟩⟩; (try first | exact aZ1 | exact aZ2); have hcz20_0 : w15.cell? ⟨gb228, 0, none⟩ = some (.string (⟨#[]⟩ : ByteArray)) := (blk_cell BK228.out 0).trans rfl; have hcz20_1 : w15.cell? ⟨gb228, 1, none⟩ = some (.string (⟨#[]⟩ : ByteArray)) := (blk_cell BK228.out 1).trans rfl; have hfz20_0 := blk_frozen BK228.out 0; have hfz20_1 := blk_frozen BK228.out 1) | ((with_reducible refine gate_store (t := 9) (p := 64) rfl ?_); (try (rw [drewN_self w15]; generalize hq_ : World.drewN w15 _ = w15; have n0_ := Aside0.mk (Kd.R_at hq_ HO_6.out); have n1_ := Aside0.mk (blk_at hq_ BK228.out); have n2_ := Aside0.mk (below_at hq_ HB.out); clear hq_ HO_6 BK228 HB; have HO_6 := n0_; have BK228 := n1_; have HB := n2_; clear n0_ n1_ n2_)); refine store_event (t := 9) (p := 64) (v := ?vo_w21) (w1 := (((w15.setCell ⟨gb228, 0, none⟩ (.string (⟨#[]⟩ : ByteArray))).setCell ⟨gb228, 1, none⟩ (.string t226)).setCell ⟨gb228, 0, none⟩ (.string t229))) ?hg ?ho ?hn ?hr ?_; (case ho => rfl); (case hg => rfl); (case hn => rfl); (case hr => first | (go_simp; done) | (go_simp; rfl)); intro w21 hw; have n0_ : Aside0 (Kd.R k92 92 w21 w.heap.size (fun k_ => k_ ≠ gb228) u6 x6_1) := ⟨(by rw [hw]; exact (by (with_reducible repeat (first | apply Kd.R_alloc | apply Kd.R_drewN | apply Kd.R_drew)); exact Kd.R_mono (Kd.R_far (p := ⟨gb228, 0, none⟩) (Kd.R_far (p := ⟨gb228, 1, none⟩) (Kd.R_far (p := ⟨gb228, 0, none⟩) (Kd.R_mono HO_6.out (fun k_ hk => (⟨hk, hk.2⟩ : _ ∧ k_ ≠ gb228))) (fun _ hk => hk.2) (.string (⟨#[]⟩ : ByteArray))) (fun _ hk => hk.2) (.string t226)) (fun _ hk => hk.2) (.string t229)) (fun _ hk => hk.1.2)))⟩; have n1_ : Aside0 (w21.heap[gb228]? = some (.cells #[.string t229, .string t226] 92 (0, 0))) := ⟨(by rw [hw]; exact (by (with_reducible repeat (first | apply d1 | apply d2 | apply d3)); refine blk_put (cs := #[.string (⟨#[]⟩ : ByteArray), .string t226]) ?_ 0 _ rfl; (with_reducible repeat (first | apply d1 | apply d2 | apply d3)); refine blk_put (cs := #[.string (⟨#[]⟩ : ByteArray), .string (⟨#[]⟩ : ByteArray)]) ?_ 1 _ rfl; (with_reducible repeat (first | apply d1 | apply d2 | apply d3)); refine blk_put (cs := #[.string (⟨#[]⟩ : ByteArray), .string (⟨#[]⟩ : ByteArray)]) ?_ 0 _ rfl; (with_reducible repeat (first | apply d1 | apply d2 | apply d3)); exact BK228.out))⟩; have n2_ : Aside0 (Below w.heap.size w w21) := ⟨(by rw [hw]; exact aE)⟩; clear hw; clear HO_6; clear BK228; clear HB; have HO_6 := n0_; have BK228 := n1_; have HB := n2_; clear n0_ n1_ n2_))
      repeat (go_quiet (first | (go_at_call 58; (with_reducible refine (spec_l3Bound.calls kj9 _ _ l0 a1 t225 t229 true _ ?side1 ?side2 A18.out).mono ?_); (case side1 => exact Kd.C_below HR0.out aE); (case side2 => exact HC0.out); rintro e w' ⟨rfl, ⟨nd, rfl⟩⟩; (try first | exact aZ1 | exact aZ2); have hcz20_0 : w15.cell? ⟨gb228, 0, none⟩ = some (.string (⟨#[]⟩ : ByteArray)) := (blk_cell BK228.out 0).trans rfl; have hcz20_1 : w15.cell? ⟨gb228, 1, none⟩ = some (.string (⟨#[]⟩ : ByteArray)) := (blk_cell BK228.out 1).trans rfl; have hfz20_0 := blk_frozen BK228.out 0; have hfz20_1 := blk_frozen BK228.out 1) | ((with_reducible refine gate_store (t := 9) (p := 64) rfl ?_); (try (rw [drewN_self w15]; generalize hq_ : World.drewN w15 _ = w15; have n0_ := Aside0.mk (Kd.R_at hq_ HO_6.out); have n1_ := Aside0.mk (blk_at hq_ BK228.out); have n2_ := Aside0.mk (below_at hq_ HB.out); clear hq_ HO_6 BK228 HB; have HO_6 := n0_; have BK228 := n1_; have HB := n2_; clear n0_ n1_ n2_)); refine store_event (t := 9) (p := 64) (v := ?vo_w21) (w1 := (((w15.setCell ⟨gb228, 0, none⟩ (.string (⟨#[]⟩ : ByteArray))).setCell ⟨gb228, 1, none⟩ (.string t226)).setCell ⟨gb228, 0, none⟩ (.string t229))) ?hg ?ho ?hn ?hr ?_; (case ho => rfl); (case hg => rfl); (case hn => rfl); (case hr => first | (go_simp; done) | (go_simp; rfl)); intro w21 hw; have n0_ : Aside0 (Kd.R k92 92 w21 w.heap.size (fun k_ => k_ ≠ gb228) u6 x6_1) := ⟨(by rw [hw]; exact (by (with_reducible repeat (first | apply Kd.R_alloc | apply Kd.R_drewN | apply Kd.R_drew)); exact Kd.R_mono (Kd.R_far (p := ⟨gb228, 0, none⟩) (Kd.R_far (p := ⟨gb228, 1, none⟩) (Kd.R_far (p := ⟨gb228, 0, none⟩) (Kd.R_mono HO_6.out (fun k_ hk => (⟨hk, hk.2⟩ : _ ∧ k_ ≠ gb228))) (fun _ hk => hk.2) (.string (⟨#[]⟩ : ByteArray))) (fun _ hk => hk.2) (.string t226)) (fun _ hk => hk.2) (.string t229)) (fun _ hk => hk.1.2)))⟩; have n1_ : Aside0 (w21.heap[gb228]? = some (.cells #[.string t229, .string t226] 92 (0, 0))) := ⟨(by rw [hw]; exact (by (with_reducible repeat (first | apply d1 | apply d2 | apply d3)); refine blk_put (cs := #[.string (⟨#[]⟩ : ByteArray), .string t226]) ?_ 0 _ rfl; (with_reducible repeat (first | apply d1 | apply d2 | apply d3)); refine blk_put (cs := #[.string (⟨#[]⟩ : ByteArray), .string (⟨#[]⟩ : ByteArray)]) ?_ 1 _ rfl; (with_reducible repeat (first | apply d1 | apply d2 | apply d3)); refine blk_put (cs := #[.string (⟨#[]⟩ : ByteArray), .string (⟨#[]⟩ : ByteArray)]) ?_ 0 _ rfl; (with_reducible repeat (first | apply d1 | apply d2 | apply d3)); exact BK228.out))⟩; have n2_ : Aside0 (Below w.heap.size w w21) := ⟨(by rw [hw]; exact aE)⟩; clear hw; clear HO_6; clear BK228; clear HB; have HO_6 := n0_; have BK228 := n1_; have HB := n2_; clear n0_ n1_ n2_)); try go_wp2_with (first | (go_at_call 58; (with_reducible refine (spec_l3Bound.calls kj9 _ _ l0 a1 t225 t229 true _ ?side1 ?side2 A18.out).mono ?_); (case side1 => exact Kd.C_below HR0.out aE); (case side2 => exact HC0.out); rintro e w' ⟨rfl, ⟨nd, rfl⟩⟩; (try first | exact aZ1 | exact aZ2); have hcz20_0 : w15.cell? ⟨gb228, 0, none⟩ = some (.string (⟨#[]⟩ : ByteArray)) := (blk_cell BK228.out 0).trans rfl; have hcz20_1 : w15.cell? ⟨gb228, 1, none⟩ = some (.string (⟨#[]⟩ : ByteArray)) := (blk_cell BK228.out 1).trans rfl; have hfz20_0 := blk_frozen BK228.out 0; have hfz20_1 := blk_frozen BK228.out 1) | ((with_reducible refine gate_store (t := 9) (p := 64) rfl ?_); (try (rw [drewN_self w15]; generalize hq_ : World.drewN w15 _ = w15; have n0_ := Aside0.mk (Kd.R_at hq_ HO_6.out); have n1_ := Aside0.mk (blk_at hq_ BK228.out); have n2_ := Aside0.mk (below_at hq_ HB.out); clear hq_ HO_6 BK228 HB; have HO_6 := n0_; have BK228 := n1_; have HB := n2_; clear n0_ n1_ n2_)); refine store_event (t := 9) (p := 64) (v := ?vo_w21) (w1 := (((w15.setCell ⟨gb228, 0, none⟩ (.string (⟨#[]⟩ : ByteArray))).setCell ⟨gb228, 1, none⟩ (.string t226)).setCell ⟨gb228, 0, none⟩ (.string t229))) ?hg ?ho ?hn ?hr ?_; (case ho => rfl); (case hg => rfl); (case hn => rfl); (case hr => first | (go_simp; done) | (go_simp; rfl)); intro w21 hw; have n0_ : Aside0 (Kd.R k92 92 w21 w.heap.size (fun k_ => k_ ≠ gb228) u6 x6_1) := ⟨(by rw [hw]; exact (by (with_reducible repeat (first | apply Kd.R_alloc | apply Kd.R_drewN | apply Kd.R_drew)); exact Kd.R_mono (Kd.R_far (p := ⟨gb228, 0, none⟩) (Kd.R_far (p := ⟨gb228, 1, none⟩) (Kd.R_far (p := ⟨gb228, 0, none⟩) (Kd.R_mono HO_6.out (fun k_ hk => (⟨hk, hk.2⟩ : _ ∧ k_ ≠ gb228))) (fun _ hk => hk.2) (.string (⟨#[]⟩ : ByteArray))) (fun _ hk => hk.2) (.string t226)) (fun _ hk => hk.2) (.string t229)) (fun _ hk => hk.1.2)))⟩; have n1_ : Aside0 (w21.heap[gb228]? = some (.cells #[.string t229, .string t226] 92 (0, 0))) := ⟨(by rw [hw]; exact (by (with_reducible repeat (first | apply d1 | apply d2 | apply d3)); refine blk_put (cs := #[.string (⟨#[]⟩ : ByteArray), .string t226]) ?_ 0 _ rfl; (with_reducible repeat (first | apply d1 | apply d2 | apply d3)); refine blk_put (cs := #[.string (⟨#[]⟩ : ByteArray), .string (⟨#[]⟩ : ByteArray)]) ?_ 1 _ rfl; (with_reducible repeat (first | apply d1 | apply d2 | apply d3)); refine blk_put (cs := #[.string (⟨#[]⟩ : ByteArray), .string (⟨#[]⟩ : ByteArray)]) ?_ 0 _ rfl; (with_reducible repeat (first | apply d1 | apply d2 | apply d3)); exact BK228.out))⟩; have n2_ : Aside0 (Below w.heap.size w w21) := ⟨(by rw [hw]; exact aE)⟩; clear hw; clear HO_6; clear BK228; clear HB; have HO_6 := n0_; have BK228 := n1_; have HB := n2_; clear n0_ n1_ n2_)))
      go_meet
      case rel => exact ⟨_, (t229), H', ⟨by have := HK1.out; have := HJ9.out; first | omega | exact Nat.le_refl _⟩, ⟨by (with_reducible repeat (first | apply Kd.R_alloc | apply Kd.R_drewN | apply Kd.R_drew)); exact Kd.R_mono (Kd.R_far (p := ⟨gb228, 0, none⟩) (Kd.R_drewN (Kd.R_far (p := ⟨gb228, 1, none⟩) (Kd.R_far (p := ⟨gb228, 0, none⟩) (Kd.R_mono HO_6.out (fun k_ hk => (⟨hk, hk.2⟩ : _ ∧ k_ ≠ gb228))) (fun _ hk => hk.2) (.string (⟨#[]⟩ : ByteArray))) (fun _ hk => hk.2) (.string t226)) _) (fun _ hk => hk.2) (.string t229)) (fun _ hk => hk.1.2)⟩, ⟨by (with_reducible repeat (first | apply d1 | apply d2 | apply d3)); refine blk_put (cs := #[.string (⟨#[]⟩ : ByteArray), .string t226]) ?_ 0 _ rfl; (with_reducible repeat (first | apply d1 | apply d2 | apply d3)); refine blk_put (cs := #[.string (⟨#[]⟩ : ByteArray), .string (⟨#[]⟩ : ByteArray)]) ?_ 1 _ rfl; (with_reducible repeat (first | apply d1 | apply d2 | apply d3)); refine blk_put (cs := #[.string (⟨#[]⟩ : ByteArray), .string (⟨#[]⟩ : ByteArray)]) ?_ 0 _ rfl; (with_reducible repeat (first | apply d1 | apply d2 | apply d3)); exact BK228.out⟩, ⟨aE⟩⟩
     case rest =>
      clear HC14
      try clear c1
      try clear c2
      try clear p2
      try clear q2
      try clear hx2
      try clear c5
      try clear c5b0
      try clear c6
      try clear c6b0
      try clear p6
      try clear c7
      try clear c7b0
      try clear c8
      try clear c8b0
      try clear c11
      try clear c11b0
      try clear c11b1
      try clear c12
      try clear c12b0
      try clear c12b1
      try clear c13
      try clear c17
      try clear c17b0
      try clear c17b1
      try clear c19
      try clear hcz16_0
      try clear hcz16_1
      try clear hcz20_0
      try clear hcz20_1
      try clear hfz16_0
      try clear hfz16_1
      try clear hfz20_0
      try clear hfz20_1
      try clear hx222_0
      try clear hx222_1
      try clear hx222_2
      try clear hx222_3
      try clear hx223_0
      try clear hx223_1
      try clear hx223_2
      try clear hx223_3
      try clear hx224_0
      try clear hx224_1
      try clear p2
      try clear p222
      try clear p223
      try clear p224
      try clear q2
      try clear q222
      try clear q223
      try clear q224
      obtain ⟨kq, x229000_13, HA, HJ13, HO_6, BK228, HB⟩ := hcut
      cases kq with
      | zero => exact absurd HA.out (by simp [spec_l3Attrs.j2])
      | succ kj13 =>
       have H := HA.out
       clear HA
       simp only [spec_l3Attrs.j2] at H
       have H' := Aside0.mk H
       clear H
       go_wp2
       repeat (go_quiet (fail); try go_wp2)
       go_loopg [14] kj13 (fun kq v14 w' => ∃ (x14_4 : Int), v14 = .int .i64 x14_4 ∧ Aside0 (spec_l3Attrs.l1 kq l0 a1 x6_1 x7_1 x14_4 x229000_13 t226 = some (r1, r2)) ∧ Aside0 (kq ≤ kj13) ∧ Aside0 (Kd.R k92 92 w' w.heap.size (fun k_ => k_ ≠ gb228) u6 x6_1) ∧ Aside0 (w'.heap[gb228]? = some (.cells #[.string x229000_13, .string t226] 92 (0, 0))) ∧ Aside0 (Below w.heap.size w w'))
       case atStart => exact ⟨(0), aR, H', ⟨Nat.le_refl _⟩, ⟨aP HO_6.out⟩, ⟨aP BK228.out⟩, ⟨aE⟩⟩
       case round =>
        clear H'
        try clear c1
        try clear c2
        try clear p2
        try clear q2
        try clear hx2
        try clear c5
        try clear c5b0
        try clear c6
        try clear c6b0
        try clear p6
        try clear c7
        try clear c7b0
        try clear c8
        try clear c8b0
        try clear c11
        try clear c11b0
        try clear c11b1
        try clear c12
        try clear c12b0
        try clear c12b1
        try clear c13
        try clear c17
        try clear c17b0
        try clear c17b1
        try clear c19
        try clear hcz16_0
        try clear hcz16_1
        try clear hcz20_0
        try clear hcz20_1
        try clear hfz16_0
        try clear hfz16_1
        try clear hfz20_0
        try clear hfz20_1
        try clear hx222_0
        try clear hx222_1
        try clear hx222_2
        try clear hx222_3
        try clear hx223_0
        try clear hx223_1
        try clear hx223_2
        try clear hx223_3
        try clear hx224_0
        try clear hx224_1
        try clear p2
        try clear p222
        try clear p223
        try clear p224
        try clear p6
        try clear q2
        try clear q222
        try clear q223
        try clear q224
        obtain ⟨x14_4, rfl, HA, HK4, HO_6, BK228, HB⟩ := hrel
        cases gk with
        | zero => exact absurd HA.out (by simp [spec_l3Attrs.l1])
        | succ k4 =>
         have H := HA.out
         clear HA
         simp only [spec_l3Attrs.l1] at H
         by_cases c22 : x14_4 < (x6_1.length : Int)
         ·rw [if_pos c22] at H
          have c22b0 : decide (x14_4 < (x6_1.length : Int)) = true := decide_eq_true c22
          clear c22
          by_cases c23 : 0 ≤ x14_4
          rotate_left
          ·rw [if_neg c23] at H
           exact absurd H (by simp)
          rw [if_pos c23] at H
          have c23b0 : decide (0 ≤ x14_4) = true := decide_eq_true c23
          clear c23
          by_cases c24 : ((((rd_T92 x6_1 x14_4).f0).toList) == x229000_13.toList && ((((rd_T92 x6_1 x14_4).f1).toList) == t226.toList)) = true
          ·rw [if_pos c24] at H
           have c24b0 : ((((rd_T92 x6_1 x14_4).f0).toList) == x229000_13.toList && ((((rd_T92 x6_1 x14_4).f1).toList) == t226.toList)) = true := c24
           (try (have c24b1 : decide ((((rd_T92 x6_1 x14_4).f0).toList) = x229000_13.toList && ((((rd_T92 x6_1 x14_4).f1).toList) == t226.toList)) = true := by simpa using c24))
           (try (have c24b2 : ((((rd_T92 x6_1 x14_4).f0).toList) == x229000_13.toList && ((((rd_T92 x6_1 x14_4).f1).toList) == t226.toList)) = true := by simpa using c24))
           clear c24
           simp only [Option.some.injEq, Prod.mk.injEq] at H
           obtain ⟨rfl, rfl⟩ := H
           obtain ⟨Ao25, co25, eo25⟩ := Kd.R_slice HO_6.out
           subst eo25
           have p231 : 0 ≤ (x14_4 : Int) := aD
           have q231 : x14_4 < (x6_1.length : Int) := aD
           obtain ⟨ad231, e231, hx231_0, hx231_1⟩ := at_T92 (Kd.R_reads' HO_6.out).2.2 x14_4 p231 q231
           cases e231
           replace p231 := eq_true p231
           replace q231 := eq_true q231
           have hcz26_0 : wr.cell? ⟨gb228, 0, none⟩ = some (.string x229000_13) := (blk_cell BK228.out 0).trans rfl
           have hcz26_1 : wr.cell? ⟨gb228, 1, none⟩ = some (.string t226) := (blk_cell BK228.out 1).trans rfl
           have hfz26_0 := blk_frozen BK228.out 0
           have hfz26_1 := blk_frozen BK228.out 1
           go_wp2
           repeat (go_quiet (fail); try go_wp2)
           go_ret2
           exact ⟨_, by first | rfl | (simp only [aX1, aX2]; rfl) | (simp [*] <;> rfl), by first | exact Kd.R_nil _ _ _ _ _ | exact Kd.N_nil _ _ _ _ _ | exact Kd.V_nil _ _ _ _ _ | exact Kd.Q_nil _ _ _ _ _ | exact Kd.S_nil _ _ _ _ _, aE⟩
          rw [if_neg c24] at H
          have c24b0 : ((((rd_T92 x6_1 x14_4).f0).toList) == x229000_13.toList && ((((rd_T92 x6_1 x14_4).f1).toList) == t226.toList)) = false := by simpa using c24
          (try (have c24b1 : decide ((((rd_T92 x6_1 x14_4).f0).toList) = x229000_13.toList && ((((rd_T92 x6_1 x14_4).f1).toList) == t226.toList)) = false := by simpa using c24))
          (try (have c24b2 : ((((rd_T92 x6_1 x14_4).f0).toList) == x229000_13.toList && ((((rd_T92 x6_1 x14_4).f1).toList) == t226.toList)) = false := by simpa using c24))
          (try (have c24b3 : ¬ ((((rd_T92 x6_1 x14_4).f0).toList) = x229000_13.toList && ((((rd_T92 x6_1 x14_4).f1).toList) == t226.toList)) := by simpa using c24))
          clear c24
          have H' := Aside0.mk H
          clear H
          obtain ⟨Ao27, co27, eo27⟩ := Kd.R_slice HO_6.out
          subst eo27
          have p231 : 0 ≤ (x14_4 : Int) := aD
          have q231 : x14_4 < (x6_1.length : Int) := aD
          obtain ⟨ad231, e231, hx231_0, hx231_1⟩ := at_T92 (Kd.R_reads' HO_6.out).2.2 x14_4 p231 q231
          cases e231
          replace p231 := eq_true p231
          replace q231 := eq_true q231
          have hcz28_0 : wr.cell? ⟨gb228, 0, none⟩ = some (.string x229000_13) := (blk_cell BK228.out 0).trans rfl
          have hcz28_1 : wr.cell? ⟨gb228, 1, none⟩ = some (.string t226) := (blk_cell BK228.out 1).trans rfl
          have hfz28_0 := blk_frozen BK228.out 0
          have hfz28_1 := blk_frozen BK228.out 1
          go_wp2
          repeat (go_quiet (fail); try go_wp2)
          go_roundg k4
          case measure => have := HK1.out; have := HJ9.out; have := HJ13.out; have := HK4.out; omega
          case rel => exact ⟨(wrap64 (x14_4 + 1)), aR, H', ⟨by have := HK1.out; have := HJ9.out; have := HJ13.out; have := HK4.out; omega⟩, ⟨aP HO_6.out⟩, ⟨aP BK228.out⟩, ⟨aE⟩⟩
         rw [if_neg c22] at H
         have c22b0 : decide (x14_4 < (x6_1.length : Int)) = false := decide_eq_false c22
         clear c22
         by_cases c29 : x6_1.length < 4398046511104
         rotate_left
         ·rw [if_neg c29] at H
          exact absurd H (by simp)
         rw [if_pos c29] at H
         have LMc29 := Aside0.mk c29
         clear c29
         obtain ⟨y232, hy232⟩ : ∃ y_ : List (S92), y_ = (x6_1 ++ [(⟨x229000_13, t226⟩ : S92)]) := ⟨_, rfl⟩
         replace H : (spec_l3Attrs.l0 k4 l0 a1 y232 (wrap64 (x7_1 + 1))) = some (r1, r2) := by first | (rw [hy232]; with_reducible exact H) | (have H2_ := (Option.bind_some _ _).symm.trans H; rw [hy232]; with_reducible exact H2_) | (have H2_ := (Option.bind_some _ _).symm.trans H; with_reducible exact H2_) | with_reducible exact H | (rw [hy232]; exact H) | exact H
         have Ny232 := Aside0.mk hy232
         clear hy232
         have H' := Aside0.mk H
         clear H
         obtain ⟨Ao30, co30, eo30⟩ := Kd.R_slice HO_6.out
         subst eo30
         have hcz31_0 : wr.cell? ⟨gb228, 0, none⟩ = some (.string x229000_13) := (blk_cell BK228.out 0).trans rfl
         have hcz31_1 : wr.cell? ⟨gb228, 1, none⟩ = some (.string t226) := (blk_cell BK228.out 1).trans rfl
         have hfz31_0 := blk_frozen BK228.out 0
         have hfz31_1 := blk_frozen BK228.out 1
         go_wp2_with (first | ((with_reducible refine gate_builtin (b := .append) (xs := #[.tmp 77, .tmp 79]) rfl ?_); at_builtin; refine Kd.R_append k92 (w0 := w) w.heap.size rfl (.tmp 77) (.tmp 79) 43 92 (.agg #[(.string ⟨#[]⟩), (.string ⟨#[]⟩)]) 32 rfl Tryd.underlying43 info92 rfl (by decide) (by omega) (.slice Ao30 x6_1.length co30) x6_1 (⟨x229000_13, t226⟩ : S92) [.string x229000_13, .string t226] (fun k_ => k_ ≠ gb228) (fun _ => False) rfl rfl ?aP (fun _ hk => hk.elim) ?aF ?aO ?aB ?aS ?aL ?_; (case aP => exact k92_mkM _ _ _ (⟨x229000_13, t226⟩ : S92)); (case aB => exact aE); (case aF => exact (fun k_ hk => Kd.freshB (g := gb228) (o := .cells #[.string x229000_13, .string t226] 92 (0, 0)) (aP BK228.out) k_ hk)); (case aO => exact (aP HO_6.out)); (case aS => exact (below_size aE)); (case aL => have := LMc29.out; omega); intro v233 w32 ho hb hg hat; rw [← Ny232.out] at ho; have n0_ := Aside0.mk (blk_grown (g := gb228) (o := .cells #[.string x229000_13, .string t226] 92 (0, 0)) (aP BK228.out) hg (Kd.R_away HO_6.out (fun _ hk => hk))); have n1_ := Aside0.mk (hb); have n2_ := Aside0.mk (ho); clear BK228; clear HB; clear HO_6; have BK228 := n0_; have HB := n1_; have HO234 := n2_; clear n0_ n1_ n2_; clear ho hb hg hat))
         repeat (go_quiet (first | ((with_reducible refine gate_builtin (b := .append) (xs := #[.tmp 77, .tmp 79]) rfl ?_); at_builtin; refine Kd.R_append k92 (w0 := w) w.heap.size rfl (.tmp 77) (.tmp 79) 43 92 (.agg #[(.string ⟨#[]⟩), (.string ⟨#[]⟩)]) 32 rfl Tryd.underlying43 info92 rfl (by decide) (by omega) (.slice Ao30 x6_1.length co30) x6_1 (⟨x229000_13, t226⟩ : S92) [.string x229000_13, .string t226] (fun k_ => k_ ≠ gb228) (fun _ => False) rfl rfl ?aP (fun _ hk => hk.elim) ?aF ?aO ?aB ?aS ?aL ?_; (case aP => exact k92_mkM _ _ _ (⟨x229000_13, t226⟩ : S92)); (case aB => exact aE); (case aF => exact (fun k_ hk => Kd.freshB (g := gb228) (o := .cells #[.string x229000_13, .string t226] 92 (0, 0)) (aP BK228.out) k_ hk)); (case aO => exact (aP HO_6.out)); (case aS => exact (below_size aE)); (case aL => have := LMc29.out; omega); intro v233 w32 ho hb hg hat; rw [← Ny232.out] at ho; have n0_ := Aside0.mk (blk_grown (g := gb228) (o := .cells #[.string x229000_13, .string t226] 92 (0, 0)) (aP BK228.out) hg (Kd.R_away HO_6.out (fun _ hk => hk))); have n1_ := Aside0.mk (hb); have n2_ := Aside0.mk (ho); clear BK228; clear HB; clear HO_6; have BK228 := n0_; have HB := n1_; have HO234 := n2_; clear n0_ n1_ n2_; clear ho hb hg hat)); try go_wp2_with (first | ((with_reducible refine gate_builtin (b := .append) (xs := #[.tmp 77, .tmp 79]) rfl ?_); at_builtin; refine Kd.R_append k92 (w0 := w) w.heap.size rfl (.tmp 77) (.tmp 79) 43 92 (.agg #[(.string ⟨#[]⟩), (.string ⟨#[]⟩)]) 32 rfl Tryd.underlying43 info92 rfl (by decide) (by omega) (.slice Ao30 x6_1.length co30) x6_1 (⟨x229000_13, t226⟩ : S92) [.string x229000_13, .string t226] (fun k_ => k_ ≠ gb228) (fun _ => False) rfl rfl ?aP (fun _ hk => hk.elim) ?aF ?aO ?aB ?aS ?aL ?_; (case aP => exact k92_mkM _ _ _ (⟨x229000_13, t226⟩ : S92)); (case aB => exact aE); (case aF => exact (fun k_ hk => Kd.freshB (g := gb228) (o := .cells #[.string x229000_13, .string t226] 92 (0, 0)) (aP BK228.out) k_ hk)); (case aO => exact (aP HO_6.out)); (case aS => exact (below_size aE)); (case aL => have := LMc29.out; omega); intro v233 w32 ho hb hg hat; rw [← Ny232.out] at ho; have n0_ := Aside0.mk (blk_grown (g := gb228) (o := .cells #[.string x229000_13, .string t226] 92 (0, 0)) (aP BK228.out) hg (Kd.R_away HO_6.out (fun _ hk => hk))); have n1_ := Aside0.mk (hb); have n2_ := Aside0.mk (ho); clear BK228; clear HB; clear HO_6; have BK228 := n0_; have HB := n1_; have HO234 := n2_; clear n0_ n1_ n2_; clear ho hb hg hat)))
         go_roundg k4
         case measure => have := HK1.out; have := HJ9.out; have := HJ13.out; have := HK4.out; omega
         case rel => exact ⟨(y232), (wrap64 (x7_1 + 1)), aR, H', ⟨by have := HK1.out; have := HJ9.out; have := HJ13.out; have := HK4.out; omega⟩, ⟨by (with_reducible repeat (first | apply Kd.R_alloc | apply Kd.R_drewN | apply Kd.R_drew)); exact Kd.R_mono HO234.out (fun _ hk => trivial)⟩, ⟨aE⟩⟩
end Go.Proofs.YtbhklkpjjpkblaaDoor.PI
