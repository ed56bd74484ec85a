import Derived.Test.YtbhklkpjjpkblaaDoorHShort
import Derived.Test.YtbhklkpjjpkblaaDoorPIx0
import Derived.Test.YtbhklkpjjpkblaaDoorPIx8
import Derived.Test.YtbhklkpjjpkblaaDoorPIx9
import Derived.Test.YtbhklkpjjpkblaaDoorPIx10
import Derived.Test.YtbhklkpjjpkblaaDoorPIx11
namespace Go.Proofs.YtbhklkpjjpkblaaDoor.PI
open Go.RowKit Go.Proofs.YtbhklkpjjpkblaaDoorW.PrintWords Go.Proofs.YtbhklkpjjpkblaaDoorW.PrintLast Go.Proofs.YtbhklkpjjpkblaaDoorW.PrintMore Go.Proofs.YtbhklkpjjpkblaaDoorW.WordsB Go.Proofs.YtbhklkpjjpkblaaDoorW.GlM Go.Proofs.YtbhklkpjjpkblaaDoorW.Short
attribute [local go_sem] max2_int min2_int max_two min_two max_three min_three max_four min_four
set_option linter.unusedVariables false
set_option linter.unusedSimpArgs false
def spec_NamesOf.l0 : Nat → List (S74) → List (S92) → Int → Option ((List (S92)) × Bool)
 | 0, _, _, _ => none
 | k + 1, x0, x4, x5 => if x5 < (x0.length : Int) then (if 0 ≤ x5 then (if ((rd_T74 x0 x5).f1).toList = ([] : List UInt8) then (if x4.length < 4398046511104 then (spec_NamesOf.l0 k x0 (x4 ++ [(⟨(⟨#[]⟩ : ByteArray), (⟨#[]⟩ : ByteArray)⟩ : S92)]) (wrap64 (x5 + 1))) else (none)) else ((spec_Split.f k ((rd_T74 x0 x5).f1)).bind fun bt244 => ((spec_l3Bound.f k x0 x5 bt244.1).bind fun bt247 => ((spec_l3Attrs.f k x0 x5).bind fun bt249 => (if bt247.2 = true then (if bt249.2 = true then (if x4.length < 4398046511104 then (spec_NamesOf.l0 k x0 (x4 ++ [(⟨bt247.1, bt244.2.1⟩ : S92)]) (wrap64 (x5 + 1))) else (none)) else (some (([] : List (S92)), false))) else (some (([] : List (S92)), false))))))) else (none)) else (some (x4, true))
def spec_NamesOf.f (k : Nat) (l0 : List (S74)) : Option ((List (S92)) × Bool) := (spec_DocOk.f k l0).bind fun t235 => (if t235 = true then (spec_NamesOf.l0 k l0 (([] : List (S92))) 0) else (some (([] : List (S92)), false)))
set_option maxHeartbeats 8000000 in
set_option maxRecDepth 100000 in
theorem spec_NamesOf.calls (k : Nat) (A0 : Option Addr) (c0 : Nat) (l0 : List (S74)) (r1 : List (S92)) (r2 : Bool) (w : World) (hr0 : Kd.C k74 w A0 l0.length l0) (hc0 : l0.length ≤ c0) (h : spec_NamesOf.f k l0 = some (r1, r2)) :
  Calls Tryd.prog 35 #[.slice A0 l0.length c0] w fun e w' => ∃ v0_ : Value, e = .returned (.tuple #[v0_, .bool r2]) ∧ Kd.R k92 92 w' w.heap.size (fun _ => True) v0_ r1 ∧ Below w.heap.size w w' := by
 have hu92 := Tryd.underlying92
 have HR0 := Aside0.mk hr0
 have HC0 := Aside0.mk hc0
 clear hr0 hc0
 have HB := Aside0.mk (Below.refl w.heap.size w)
 have H : ((spec_DocOk.f k l0).bind fun t235 => (if t235 = true then (spec_NamesOf.l0 k l0 (([] : List (S92))) 0) else (some (([] : List (S92)), false)))) = some (r1, r2) := h
 clear h
 replace H := Option.bind_eq_some_iff.mp H
 obtain ⟨t235, A20, H⟩ := H
 replace H : (if t235 = true then (spec_NamesOf.l0 k l0 (([] : List (S92))) 0) else (some (([] : List (S92)), false))) = some (r1, r2) := H
 have A2 := Aside0.mk A20
 clear A20
 by_cases c3 : t235 = true
 rotate_left
 ·replace c3 := Bool.eq_false_iff.mpr c3
  subst c3
  have H1 : (some (([] : List (S92)), false)) = some (r1, r2) := by rw [if_neg (show ¬ (false = true) by decide)] at H; exact H
  clear H
  have H := H1
  clear H1
  simp only [Option.some.injEq, Prod.mk.injEq] at H
  obtain ⟨rfl, rfl⟩ := H
  go_enter Tryd.func35, Tryd.ntmps35
  go_wp2_with (first | ((with_reducible refine gate_callee (f := 16) rfl ?_); refine goesL_ (some 14) rfl rfl Tryd.func16 (by kernel_rfl) rfl #[.slice A0 l0.length c0] rfl aG ?_; (with_reducible refine (spec_DocOk.calls k _ _ l0 false _ ?side1 ?side2 A2.out).mono ?_); (case side1 => repeat (first | exact HR0.out | (with_reducible refine Kd.C_alloc ?_ _) | (with_reducible refine Kd.C_drewN ?_ _) | (with_reducible refine Kd.C_drew ?_))); (case side2 => exact HC0.out); rintro e w22 ⟨rfl, hb⟩; refine ⟨_, rfl, ?_⟩; have n0_ := Aside0.mk (below_step aB hb); clear HB; have HB := n0_; clear n0_; (try clear hb); (try clear hb2); (try clear hk); (try clear hi)))
  go_ret2
  exact ⟨_, by first | rfl | (simp only [aX1, aX2]; rfl) | (simp [*] <;> rfl), by first | exact Kd.R_nil _ _ _ _ _ | exact Kd.N_nil _ _ _ _ _ | exact Kd.V_nil _ _ _ _ _ | exact Kd.Q_nil _ _ _ _ _ | exact Kd.S_nil _ _ _ _ _, aB⟩
 subst c3
 have H1 : (spec_NamesOf.l0 k l0 (([] : List (S92))) 0) = some (r1, r2) := by rw [if_pos rfl] at H; exact H
 clear H
 have H := H1
 clear H1
 obtain ⟨y236, hy236⟩ : ∃ y_ : List (S92), y_ = (([] : List (S92))) := ⟨_, rfl⟩
 replace H : (spec_NamesOf.l0 k l0 y236 0) = some (r1, r2) := by first | (rw [hy236]; with_reducible exact H) | (have H2_ := (Option.bind_some _ _).symm.trans H; rw [hy236]; with_reducible exact H2_) | (have H2_ := (Option.bind_some _ _).symm.trans H; with_reducible exact H2_) | with_reducible exact H | (rw [hy236]; exact H) | exact H
 have Ny236 := Aside0.mk hy236
 clear hy236
 have H' := Aside0.mk H
 clear H
 go_enter Tryd.func35, Tryd.ntmps35
 go_wp2_with (first | ((with_reducible refine gate_callee (f := 16) rfl ?_); refine goesL_ (some 14) rfl rfl Tryd.func16 (by kernel_rfl) rfl #[.slice A0 l0.length c0] rfl aG ?_; (with_reducible refine (spec_DocOk.calls k _ _ l0 true _ ?side1 ?side2 A2.out).mono ?_); (case side1 => repeat (first | exact HR0.out | (with_reducible refine Kd.C_alloc ?_ _) | (with_reducible refine Kd.C_drewN ?_ _) | (with_reducible refine Kd.C_drew ?_))); (case side2 => exact HC0.out); rintro e w4 ⟨rfl, hb⟩; refine ⟨_, rfl, ?_⟩; have n0_ := Aside0.mk (below_step aB hb); clear HB; have HB := n0_; clear n0_; (try clear hb); (try clear hb2); (try clear hk); (try clear hi)) | ((with_reducible refine gate_dst (N := 16) rfl ?_); refine Kd.R_lit k92 _ 92 ?hg (N := 16) ?hd (xs := ([] : List (S92))) (inner := []) (ok := fun _ => True) (okp := fun _ => True) ?hr ?hp (fun _ hk => hk) trivial (Below.refl _ _) (Nat.le_refl _) (by simp) ?_; (case hd => rfl); (case hg => rfl); (case hr => first | (go_simp; done) | (go_simp; rfl)); (case hp => exact (Reps.none _ _)); intro v237 w5 ho6 hb hg_ hnew_; clear hg_ hnew_; (first | rw [← Ny236.out] at ho6 | (simp only [Int.reduceToNat] at ho6; rw [← Ny236.out] at ho6)); have n0_ := Aside0.mk (Kd.R_lower ho6 (below_size aB)); have n1_ := Aside0.mk (below_step aB hb); clear HB; have HO238 := n0_; have HB := n1_; clear n0_ n1_; clear hb ho6))
 go_loopg [4, 5] k (fun kq v4 v5 w' => ∃ (x4_1 : List (S92)) (x5_1 : Int), v5 = .int .i64 x5_1 ∧ Aside0 (spec_NamesOf.l0 kq l0 x4_1 x5_1 = some (r1, r2)) ∧ Aside0 (kq ≤ k) ∧ Aside0 (Kd.R k92 92 w' w.heap.size (fun _ => True) v4 x4_1) ∧ Aside0 (Below w.heap.size w w'))
 case atStart => exact ⟨(y236), (0), aR, H', ⟨Nat.le_refl _⟩, ⟨aP HO238.out⟩, ⟨aB⟩⟩
 case round =>
  clear H'
  try clear c1
  try clear p2
  try clear c3
  obtain ⟨x4_1, x5_1, rfl, HA, HK1, HO_4, HB⟩ := hrel
  cases gk with
  | zero => exact absurd HA.out (by simp [spec_NamesOf.l0])
  | succ k1 =>
   have H := HA.out
   clear HA
   simp only [spec_NamesOf.l0] at H
   by_cases c7 : x5_1 < (l0.length : Int)
   rotate_left
   ·rw [if_neg c7] at H
    have c7b0 : decide (x5_1 < (l0.length : Int)) = false := decide_eq_false c7
    clear c7
    simp only [Option.some.injEq, Prod.mk.injEq] at H
    obtain ⟨rfl, rfl⟩ := H
    go_wp2
    go_ret2
    exact ⟨_, by first | rfl | (simp only [aX1, aX2]; rfl) | (simp [*] <;> rfl), by (with_reducible repeat (first | apply Kd.R_alloc | apply Kd.R_drewN | apply Kd.R_drew)); exact HO_4.out, aB⟩
   rw [if_pos c7] at H
   have c7b0 : decide (x5_1 < (l0.length : Int)) = true := decide_eq_true c7
   clear c7
   by_cases c8 : 0 ≤ x5_1
   rotate_left
   ·rw [if_neg c8] at H
    exact absurd H (by simp)
   rw [if_pos c8] at H
   have c8b0 : decide (0 ≤ x5_1) = true := decide_eq_true c8
   clear c8
   by_cases c9 : ((rd_T74 l0 x5_1).f1).toList = ([] : List UInt8)
   ·rw [if_pos c9] at H
    have c9b0 : (((rd_T74 l0 x5_1).f1).toList == ([] : List UInt8)) = true := beq_iff_eq.mpr c9
    have c9b1 : (((rd_T74 l0 x5_1).f1).toList != ([] : List UInt8)) = false := bne_eq_false_iff_eq.mpr c9
    have c9b2 : (((rd_T74 l0 x5_1).f1)).toList.isEmpty = true := by (first | exact (List.isEmpty_iff.mpr (eq_of_beq c9b0)) | exact (Bool.eq_false_iff.mpr (fun h_ => by rw [List.isEmpty_iff.mp h_] at c9b0; cases c9b0)))
    clear c9
    by_cases c10 : x4_1.length < 4398046511104
    rotate_left
    ·rw [if_neg c10] at H
     exact absurd H (by simp)
    rw [if_pos c10] at H
    have LMc10 := Aside0.mk c10
    clear c10
    obtain ⟨y240, hy240⟩ : ∃ y_ : List (S92), y_ = (x4_1 ++ [(⟨(⟨#[]⟩ : ByteArray), (⟨#[]⟩ : ByteArray)⟩ : S92)]) := ⟨_, rfl⟩
    replace H : (spec_NamesOf.l0 k1 l0 y240 (wrap64 (x5_1 + 1))) = some (r1, r2) := by first | (rw [hy240]; with_reducible exact H) | (have H2_ := (Option.bind_some _ _).symm.trans H; rw [hy240]; with_reducible exact H2_) | (have H2_ := (Option.bind_some _ _).symm.trans H; with_reducible exact H2_) | with_reducible exact H | (rw [hy240]; exact H) | exact H
    have Ny240 := Aside0.mk hy240
    clear hy240
    have H' := Aside0.mk H
    clear H
    have p239 : 0 ≤ (x5_1 : Int) := aD
    have q239 : x5_1 < (l0.length : Int) := aD
    obtain ⟨ad239, A239_3, c239_3, e239, hx239_0, hx239_1, hx239_2, hx239_3, hl239_3, hi239_3⟩ := at_T74 HR0.out x5_1 p239 q239
    cases e239
    replace hx239_0 := (HB.out.cell (World.block_lt_of_cell? w _ hx239_0)).trans hx239_0
    replace hx239_1 := (HB.out.cell (World.block_lt_of_cell? w _ hx239_1)).trans hx239_1
    replace hx239_2 := (HB.out.cell (World.block_lt_of_cell? w _ hx239_2)).trans hx239_2
    replace hx239_3 := (HB.out.cell (World.block_lt_of_cell? w _ hx239_3)).trans hx239_3
    have HR239_3 := Aside0.mk hi239_3
    have HC239_3 := Aside0.mk hl239_3
    clear hi239_3 hl239_3
    replace p239 := eq_true p239
    replace q239 := eq_true q239
    go_wp2_with (first | ((with_reducible refine gate_builtin (b := .append) (xs := #[.tmp 29, .tmp 31]) rfl ?_); at_builtin; refine Kd.R_append k92 (w0 := w) w.heap.size rfl (.tmp 29) (.tmp 31) 43 92 (.agg #[(.string ⟨#[]⟩), (.string ⟨#[]⟩)]) 32 rfl Tryd.underlying43 info92 rfl (by decide) (by omega) u4 x4_1 (⟨(⟨#[]⟩ : ByteArray), (⟨#[]⟩ : ByteArray)⟩ : S92) [.string (⟨#[]⟩ : ByteArray), .string (⟨#[]⟩ : ByteArray)] (fun _ => True) (fun _ => False) rfl rfl ?aP (fun _ hk => hk.elim) ?aF ?aO ?aB ?aS ?aL ?_; (case aP => exact k92_mkM _ _ _ (⟨(⟨#[]⟩ : ByteArray), (⟨#[]⟩ : ByteArray)⟩ : S92)); (case aB => exact aB); (case aF => exact (fun _ _ => trivial)); (case aO => exact (aP HO_4.out)); (case aS => exact (below_size aB)); (case aL => have := LMc10.out; omega); intro v241 w11 ho hb hg hat; rw [← Ny240.out] at ho; have n0_ := Aside0.mk (hb); have n1_ := Aside0.mk (ho); clear HB; clear HO_4; have HB := n0_; have HO242 := n1_; clear n0_ n1_; clear ho hb hg hat))
    go_roundg k1
    case measure => have := HK1.out; omega
    case rel => exact ⟨(y240), (wrap64 (x5_1 + 1)), aR, H', ⟨by have := HK1.out; omega⟩, ⟨aP HO242.out⟩, ⟨aB⟩⟩
   rw [if_neg c9] at H
   have c9b0 : (((rd_T74 l0 x5_1).f1).toList == ([] : List UInt8)) = false := beq_eq_false_iff_ne.mpr c9
   have c9b1 : (((rd_T74 l0 x5_1).f1).toList != ([] : List UInt8)) = true := bne_iff_ne.mpr c9
   have c9b2 : (((rd_T74 l0 x5_1).f1)).toList.isEmpty = false := by (first | exact (List.isEmpty_iff.mpr (eq_of_beq c9b0)) | exact (Bool.eq_false_iff.mpr (fun h_ => by rw [List.isEmpty_iff.mp h_] at c9b0; cases c9b0)))
   replace H := Option.bind_eq_some_iff.mp H
   obtain ⟨⟨t244, t245, t246⟩, A120, H⟩ := H
   replace H : ((spec_l3Bound.f k1 l0 x5_1 t244).bind fun bt247 => ((spec_l3Attrs.f k1 l0 x5_1).bind fun bt249 => (if bt247.2 = true then (if bt249.2 = true then (if x4_1.length < 4398046511104 then (spec_NamesOf.l0 k1 l0 (x4_1 ++ [(⟨bt247.1, t245⟩ : S92)]) (wrap64 (x5_1 + 1))) else (none)) else (some (([] : List (S92)), false))) else (some (([] : List (S92)), false))))) = some (r1, r2) := H
   have A12 := Aside0.mk A120
   clear A120
   replace H := Option.bind_eq_some_iff.mp H
   obtain ⟨⟨t247, t248⟩, A130, H⟩ := H
   replace H : ((spec_l3Attrs.f k1 l0 x5_1).bind fun bt249 => (if t248 = true then (if bt249.2 = true then (if x4_1.length < 4398046511104 then (spec_NamesOf.l0 k1 l0 (x4_1 ++ [(⟨t247, t245⟩ : S92)]) (wrap64 (x5_1 + 1))) else (none)) else (some (([] : List (S92)), false))) else (some (([] : List (S92)), false)))) = some (r1, r2) := H
   have A13 := Aside0.mk A130
   clear A130
   replace H := Option.bind_eq_some_iff.mp H
   obtain ⟨⟨t249, t250⟩, A140, H⟩ := H
   replace H : (if t248 = true then (if t250 = true then (if x4_1.length < 4398046511104 then (spec_NamesOf.l0 k1 l0 (x4_1 ++ [(⟨t247, t245⟩ : S92)]) (wrap64 (x5_1 + 1))) else (none)) else (some (([] : List (S92)), false))) else (some (([] : List (S92)), false))) = some (r1, r2) := H
   have A14 := Aside0.mk A140
   clear A140
   by_cases c15 : t248 = true
   rotate_left
   ·replace c15 := Bool.eq_false_iff.mpr c15
    subst c15
    have H1 : (some (([] : List (S92)), false)) = some (r1, r2) := by rw [if_neg (show ¬ (false = true) by decide)] at H; exact H
    clear H
    have H := H1
    clear H1
    simp only [Option.some.injEq, Prod.mk.injEq] at H
    obtain ⟨rfl, rfl⟩ := H
    have p239 : 0 ≤ (x5_1 : Int) := aD
    have q239 : x5_1 < (l0.length : Int) := aD
    obtain ⟨ad239, A239_3, c239_3, e239, hx239_0, hx239_1, hx239_2, hx239_3, hl239_3, hi239_3⟩ := at_T74 HR0.out x5_1 p239 q239
    cases e239
    replace hx239_0 := (HB.out.cell (World.block_lt_of_cell? w _ hx239_0)).trans hx239_0
    replace hx239_1 := (HB.out.cell (World.block_lt_of_cell? w _ hx239_1)).trans hx239_1
    replace hx239_2 := (HB.out.cell (World.block_lt_of_cell? w _ hx239_2)).trans hx239_2
    replace hx239_3 := (HB.out.cell (World.block_lt_of_cell? w _ hx239_3)).trans hx239_3
    have HR239_3 := Aside0.mk hi239_3
    have HC239_3 := Aside0.mk hl239_3
    clear hi239_3 hl239_3
    replace p239 := eq_true p239
    replace q239 := eq_true q239
    have p243 : 0 ≤ (x5_1 : Int) := aD
    have q243 : x5_1 < (l0.length : Int) := aD
    obtain ⟨ad243, A243_3, c243_3, e243, hx243_0, hx243_1, hx243_2, hx243_3, hl243_3, hi243_3⟩ := at_T74 HR0.out x5_1 p243 q243
    obtain rfl : ad239 = ad243 := (by injection e243)
    replace hx243_0 := (HB.out.cell (World.block_lt_of_cell? w _ hx243_0)).trans hx243_0
    replace hx243_1 := (HB.out.cell (World.block_lt_of_cell? w _ hx243_1)).trans hx243_1
    replace hx243_2 := (HB.out.cell (World.block_lt_of_cell? w _ hx243_2)).trans hx243_2
    replace hx243_3 := (HB.out.cell (World.block_lt_of_cell? w _ hx243_3)).trans hx243_3
    have HR243_3 := Aside0.mk hi243_3
    have HC243_3 := Aside0.mk hl243_3
    clear hi243_3 hl243_3
    replace p243 := eq_true p243
    replace q243 := eq_true q243
    have ea_ := Option.some.inj (hx239_3.symm.trans hx243_3)
    injection ea_ with ea_ en_ ec_
    subst ea_
    subst ec_
    clear en_
    go_wp2_with (first | ((with_reducible refine gate_callee (f := 70) rfl ?_); refine goesL_ (some 39) rfl rfl Tryd.func70 (by kernel_rfl) rfl #[.string ((rd_T74 l0 x5_1).f1)] rfl aG ?_; (with_reducible refine (spec_Split.calls k1 ((rd_T74 l0 x5_1).f1) t244 t245 t246 _ A12.out).mono ?_); rintro e w' ⟨rfl, ⟨nd, rfl⟩⟩; refine ⟨_, rfl, ?_⟩) | ((with_reducible refine gate_callee (f := 58) rfl ?_); refine goesL_ (some 47) rfl rfl Tryd.func58 (by kernel_rfl) rfl #[.slice (some ad239) l0.length c0, .int .i64 x5_1, .string t244] rfl aG ?_; (with_reducible refine (spec_l3Bound.calls k1 _ _ l0 x5_1 t244 t247 false _ ?side1 ?side2 A13.out).mono ?_); (case side1 => repeat (first | exact (Kd.C_below HR0.out aB) | (with_reducible refine Kd.C_alloc ?_ _) | (with_reducible refine Kd.C_drewN ?_ _) | (with_reducible refine Kd.C_drew ?_))); (case side2 => exact HC0.out); rintro e w' ⟨rfl, ⟨nd, rfl⟩⟩; refine ⟨_, rfl, ?_⟩) | ((with_reducible refine gate_callee (f := 67) rfl ?_); refine goesL_ (some 53) rfl rfl Tryd.func67 (by kernel_rfl) rfl #[.slice (some ad239) l0.length c0, .int .i64 x5_1] rfl aG ?_; (with_reducible refine (spec_l3Attrs.calls k1 _ _ l0 x5_1 t249 t250 _ ?side1 ?side2 A14.out).mono ?_); (case side1 => repeat (first | exact (Kd.C_below HR0.out aB) | (with_reducible refine Kd.C_alloc ?_ _) | (with_reducible refine Kd.C_drewN ?_ _) | (with_reducible refine Kd.C_drew ?_))); (case side2 => exact HC0.out); rintro e w21 ⟨v251, rfl, ho0, hb⟩; refine ⟨_, rfl, ?_⟩; have n0_ := Aside0.mk (Kd.R_elder' (aP HO_4.out) (Kd.R_base ho0) hb); have n1_ := Aside0.mk (Kd.R_lower (Kd.R_new' ho0 (Kd.R_lt (aP HO_4.out))) (below_size aB)); have n2_ := Aside0.mk (below_step aB hb); clear HO_4; clear HB; have HO_4 := n0_; have HO252 := n1_; have HB := n2_; clear n0_ n1_ n2_; (try clear hb); (try clear hb2); (try clear hk); (try clear hi); (try clear ho0)))
    go_ret2
    exact ⟨_, by first | rfl | (simp only [aX1, aX2]; rfl) | (simp [*] <;> rfl), by first | exact Kd.R_nil _ _ _ _ _ | exact Kd.N_nil _ _ _ _ _ | exact Kd.V_nil _ _ _ _ _ | exact Kd.Q_nil _ _ _ _ _ | exact Kd.S_nil _ _ _ _ _, aB⟩
   subst c15
   have H1 : (if t250 = true then (if x4_1.length < 4398046511104 then (spec_NamesOf.l0 k1 l0 (x4_1 ++ [(⟨t247, t245⟩ : S92)]) (wrap64 (x5_1 + 1))) else (none)) else (some (([] : List (S92)), false))) = some (r1, r2) := by rw [if_pos rfl] at H; exact H
   clear H
   have H := H1
   clear H1
   by_cases c16 : t250 = true
   rotate_left
   ·replace c16 := Bool.eq_false_iff.mpr c16
    subst c16
    have H1 : (some (([] : List (S92)), false)) = some (r1, r2) := by rw [if_neg (show ¬ (false = true) by decide)] at H; exact H
    clear H
    have H := H1
    clear H1
    simp only [Option.some.injEq, Prod.mk.injEq] at H
    obtain ⟨rfl, rfl⟩ := H
    have p239 : 0 ≤ (x5_1 : Int) := aD
    have q239 : x5_1 < (l0.length : Int) := aD
    obtain ⟨ad239, A239_3, c239_3, e239, hx239_0, hx239_1, hx239_2, hx239_3, hl239_3, hi239_3⟩ := at_T74 HR0.out x5_1 p239 q239
    cases e239
    replace hx239_0 := (HB.out.cell (World.block_lt_of_cell? w _ hx239_0)).trans hx239_0
    replace hx239_1 := (HB.out.cell (World.block_lt_of_cell? w _ hx239_1)).trans hx239_1
    replace hx239_2 := (HB.out.cell (World.block_lt_of_cell? w _ hx239_2)).trans hx239_2
    replace hx239_3 := (HB.out.cell (World.block_lt_of_cell? w _ hx239_3)).trans hx239_3
    have HR239_3 := Aside0.mk hi239_3
    have HC239_3 := Aside0.mk hl239_3
    clear hi239_3 hl239_3
    replace p239 := eq_true p239
    replace q239 := eq_true q239
    have p243 : 0 ≤ (x5_1 : Int) := aD
    have q243 : x5_1 < (l0.length : Int) := aD
    obtain ⟨ad243, A243_3, c243_3, e243, hx243_0, hx243_1, hx243_2, hx243_3, hl243_3, hi243_3⟩ := at_T74 HR0.out x5_1 p243 q243
    obtain rfl : ad239 = ad243 := (by injection e243)
    replace hx243_0 := (HB.out.cell (World.block_lt_of_cell? w _ hx243_0)).trans hx243_0
    replace hx243_1 := (HB.out.cell (World.block_lt_of_cell? w _ hx243_1)).trans hx243_1
    replace hx243_2 := (HB.out.cell (World.block_lt_of_cell? w _ hx243_2)).trans hx243_2
    replace hx243_3 := (HB.out.cell (World.block_lt_of_cell? w _ hx243_3)).trans hx243_3
    have HR243_3 := Aside0.mk hi243_3
    have HC243_3 := Aside0.mk hl243_3
    clear hi243_3 hl243_3
    replace p243 := eq_true p243
    replace q243 := eq_true q243
    have ea_ := Option.some.inj (hx239_3.symm.trans hx243_3)
    injection ea_ with ea_ en_ ec_
    subst ea_
    subst ec_
    clear en_
    go_wp2_with (first | ((with_reducible refine gate_callee (f := 70) rfl ?_); refine goesL_ (some 39) rfl rfl Tryd.func70 (by kernel_rfl) rfl #[.string ((rd_T74 l0 x5_1).f1)] rfl aG ?_; (with_reducible refine (spec_Split.calls k1 ((rd_T74 l0 x5_1).f1) t244 t245 t246 _ A12.out).mono ?_); rintro e w' ⟨rfl, ⟨nd, rfl⟩⟩; refine ⟨_, rfl, ?_⟩) | ((with_reducible refine gate_callee (f := 58) rfl ?_); refine goesL_ (some 47) rfl rfl Tryd.func58 (by kernel_rfl) rfl #[.slice (some ad239) l0.length c0, .int .i64 x5_1, .string t244] rfl aG ?_; (with_reducible refine (spec_l3Bound.calls k1 _ _ l0 x5_1 t244 t247 true _ ?side1 ?side2 A13.out).mono ?_); (case side1 => repeat (first | exact (Kd.C_below HR0.out aB) | (with_reducible refine Kd.C_alloc ?_ _) | (with_reducible refine Kd.C_drewN ?_ _) | (with_reducible refine Kd.C_drew ?_))); (case side2 => exact HC0.out); rintro e w' ⟨rfl, ⟨nd, rfl⟩⟩; refine ⟨_, rfl, ?_⟩) | ((with_reducible refine gate_callee (f := 67) rfl ?_); refine goesL_ (some 53) rfl rfl Tryd.func67 (by kernel_rfl) rfl #[.slice (some ad239) l0.length c0, .int .i64 x5_1] rfl aG ?_; (with_reducible refine (spec_l3Attrs.calls k1 _ _ l0 x5_1 t249 false _ ?side1 ?side2 A14.out).mono ?_); (case side1 => repeat (first | exact (Kd.C_below HR0.out aB) | (with_reducible refine Kd.C_alloc ?_ _) | (with_reducible refine Kd.C_drewN ?_ _) | (with_reducible refine Kd.C_drew ?_))); (case side2 => exact HC0.out); rintro e w20 ⟨v251, rfl, ho0, hb⟩; refine ⟨_, rfl, ?_⟩; have n0_ := Aside0.mk (Kd.R_elder' (aP HO_4.out) (Kd.R_base ho0) hb); have n1_ := Aside0.mk (Kd.R_lower (Kd.R_new' ho0 (Kd.R_lt (aP HO_4.out))) (below_size aB)); have n2_ := Aside0.mk (below_step aB hb); clear HO_4; clear HB; have HO_4 := n0_; have HO252 := n1_; have HB := n2_; clear n0_ n1_ n2_; (try clear hb); (try clear hb2); (try clear hk); (try clear hi); (try clear ho0)))
    go_ret2
    exact ⟨_, by first | rfl | (simp only [aX1, aX2]; rfl) | (simp [*] <;> rfl), by first | exact Kd.R_nil _ _ _ _ _ | exact Kd.N_nil _ _ _ _ _ | exact Kd.V_nil _ _ _ _ _ | exact Kd.Q_nil _ _ _ _ _ | exact Kd.S_nil _ _ _ _ _, aB⟩
   subst c16
   have H1 : (if x4_1.length < 4398046511104 then (spec_NamesOf.l0 k1 l0 (x4_1 ++ [(⟨t247, t245⟩ : S92)]) (wrap64 (x5_1 + 1))) else (none)) = some (r1, r2) := by rw [if_pos rfl] at H; exact H
   clear H
   have H := H1
   clear H1
   by_cases c17 : x4_1.length < 4398046511104
   rotate_left
   ·rw [if_neg c17] at H
    exact absurd H (by simp)
   rw [if_pos c17] at H
   have LMc17 := Aside0.mk c17
   clear c17
   obtain ⟨y253, hy253⟩ : ∃ y_ : List (S92), y_ = (x4_1 ++ [(⟨t247, t245⟩ : S92)]) := ⟨_, rfl⟩
   replace H : (spec_NamesOf.l0 k1 l0 y253 (wrap64 (x5_1 + 1))) = some (r1, r2) := by first | (rw [hy253]; with_reducible exact H) | (have H2_ := (Option.bind_some _ _).symm.trans H; rw [hy253]; with_reducible exact H2_) | (have H2_ := (Option.bind_some _ _).symm.trans H; with_reducible exact H2_) | with_reducible exact H | (rw [hy253]; exact H) | exact H
   have Ny253 := Aside0.mk hy253
   clear hy253
   have H' := Aside0.mk H
   clear H
   have p239 : 0 ≤ (x5_1 : Int) := aD
   have q239 : x5_1 < (l0.length : Int) := aD
   obtain ⟨ad239, A239_3, c239_3, e239, hx239_0, hx239_1, hx239_2, hx239_3, hl239_3, hi239_3⟩ := at_T74 HR0.out x5_1 p239 q239
   cases e239
   replace hx239_0 := (HB.out.cell (World.block_lt_of_cell? w _ hx239_0)).trans hx239_0
   replace hx239_1 := (HB.out.cell (World.block_lt_of_cell? w _ hx239_1)).trans hx239_1
   replace hx239_2 := (HB.out.cell (World.block_lt_of_cell? w _ hx239_2)).trans hx239_2
   replace hx239_3 := (HB.out.cell (World.block_lt_of_cell? w _ hx239_3)).trans hx239_3
   have HR239_3 := Aside0.mk hi239_3
   have HC239_3 := Aside0.mk hl239_3
   clear hi239_3 hl239_3
   replace p239 := eq_true p239
   replace q239 := eq_true q239
   have p243 : 0 ≤ (x5_1 : Int) := aD
   have q243 : x5_1 < (l0.length : Int) := aD
   obtain ⟨ad243, A243_3, c243_3, e243, hx243_0, hx243_1, hx243_2, hx243_3, hl243_3, hi243_3⟩ := at_T74 HR0.out x5_1 p243 q243
   obtain rfl : ad239 = ad243 := (by injection e243)
   replace hx243_0 := (HB.out.cell (World.block_lt_of_cell? w _ hx243_0)).trans hx243_0
   replace hx243_1 := (HB.out.cell (World.block_lt_of_cell? w _ hx243_1)).trans hx243_1
   replace hx243_2 := (HB.out.cell (World.block_lt_of_cell? w _ hx243_2)).trans hx243_2
   replace hx243_3 := (HB.out.cell (World.block_lt_of_cell? w _ hx243_3)).trans hx243_3
   have HR243_3 := Aside0.mk hi243_3
   have HC243_3 := Aside0.mk hl243_3
   clear hi243_3 hl243_3
   replace p243 := eq_true p243
   replace q243 := eq_true q243
   have ea_ := Option.some.inj (hx239_3.symm.trans hx243_3)
   injection ea_ with ea_ en_ ec_
   subst ea_
   subst ec_
   clear en_
   go_wp2_with (first | ((with_reducible refine gate_callee (f := 70) rfl ?_); refine goesL_ (some 39) rfl rfl Tryd.func70 (by kernel_rfl) rfl #[.string ((rd_T74 l0 x5_1).f1)] rfl aG ?_; (with_reducible refine (spec_Split.calls k1 ((rd_T74 l0 x5_1).f1) t244 t245 t246 _ A12.out).mono ?_); rintro e w' ⟨rfl, ⟨nd, rfl⟩⟩; refine ⟨_, rfl, ?_⟩) | ((with_reducible refine gate_callee (f := 58) rfl ?_); refine goesL_ (some 47) rfl rfl Tryd.func58 (by kernel_rfl) rfl #[.slice (some ad239) l0.length c0, .int .i64 x5_1, .string t244] rfl aG ?_; (with_reducible refine (spec_l3Bound.calls k1 _ _ l0 x5_1 t244 t247 true _ ?side1 ?side2 A13.out).mono ?_); (case side1 => repeat (first | exact (Kd.C_below HR0.out aB) | (with_reducible refine Kd.C_alloc ?_ _) | (with_reducible refine Kd.C_drewN ?_ _) | (with_reducible refine Kd.C_drew ?_))); (case side2 => exact HC0.out); rintro e w' ⟨rfl, ⟨nd, rfl⟩⟩; refine ⟨_, rfl, ?_⟩) | ((with_reducible refine gate_callee (f := 67) rfl ?_); refine goesL_ (some 53) rfl rfl Tryd.func67 (by kernel_rfl) rfl #[.slice (some ad239) l0.length c0, .int .i64 x5_1] rfl aG ?_; (with_reducible refine (spec_l3Attrs.calls k1 _ _ l0 x5_1 t249 true _ ?side1 ?side2 A14.out).mono ?_); (case side1 => repeat (first | exact (Kd.C_below HR0.out aB) | (with_reducible refine Kd.C_alloc ?_ _) | (with_reducible refine Kd.C_drewN ?_ _) | (with_reducible refine Kd.C_drew ?_))); (case side2 => exact HC0.out); rintro e w18 ⟨v251, rfl, ho0, hb⟩; refine ⟨_, rfl, ?_⟩; have n0_ := Aside0.mk (Kd.R_elder' (aP HO_4.out) (Kd.R_base ho0) hb); have n1_ := Aside0.mk (Kd.R_lower (Kd.R_new' ho0 (Kd.R_lt (aP HO_4.out))) (below_size aB)); have n2_ := Aside0.mk (below_step aB hb); clear HO_4; clear HB; have HO_4 := n0_; have HO252 := n1_; have HB := n2_; clear n0_ n1_ n2_; (try clear hb); (try clear hb2); (try clear hk); (try clear hi); (try clear ho0)) | ((with_reducible refine gate_builtin (b := .append) (xs := #[.tmp 62, .tmp 66]) rfl ?_); at_builtin; refine Kd.R_append k92 (w0 := w) w.heap.size rfl (.tmp 62) (.tmp 66) 43 92 (.agg #[(.string ⟨#[]⟩), (.string ⟨#[]⟩)]) 32 rfl Tryd.underlying43 info92 rfl (by decide) (by omega) u4 x4_1 (⟨t247, t245⟩ : S92) [.string t247, .string t245] (fun k_ => some k_ ≠ (v251 : Value).ownBlock) (fun _ => False) rfl rfl ?aP (fun _ hk => hk.elim) ?aF ?aO ?aB ?aS ?aL ?_; (case aP => exact k92_mkM _ _ _ (⟨t247, t245⟩ : S92)); (case aB => exact aB); (case aF => exact (fun k_ hk => Kd.fresh' (Kd.R_lt (aP HO252.out)) k_ hk)); (case aO => exact (by (with_reducible repeat (first | apply Kd.R_alloc | apply Kd.R_drewN | apply Kd.R_drew)); exact Kd.R_mono HO_4.out (fun _ hk => hk.2))); (case aS => exact (below_size aB)); (case aL => have := LMc17.out; omega); intro v254 w19 ho hb hg hat; rw [← Ny253.out] at ho; have n0_ := Aside0.mk (Kd.R_after (ok := (fun _ => True)) (aP HO252.out) hg hat); have n1_ := Aside0.mk (hb); have n2_ := Aside0.mk (ho); clear HO252; clear HB; clear HO_4; have HO252 := n0_; have HB := n1_; have HO255 := n2_; clear n0_ n1_ n2_; clear ho hb hg hat))
   go_roundg k1
   case measure => have := HK1.out; omega
   case rel => exact ⟨(y253), (wrap64 (x5_1 + 1)), aR, H', ⟨by have := HK1.out; omega⟩, ⟨by (with_reducible repeat (first | apply Kd.R_alloc | apply Kd.R_drewN | apply Kd.R_drew)); exact Kd.R_mono HO255.out (fun _ hk => trivial)⟩, ⟨aB⟩⟩
def impl_in.f (a0 : Int) (a1 : Int) (a2 : Int) : Option (Bool) := if a1 ≤ a0 then (some (decide (a0 ≤ a2))) else (some false)
set_option maxHeartbeats 8000000 in
set_option maxRecDepth 100000 in
theorem impl_in.calls (a0 : Int) (a1 : Int) (a2 : Int) (r : Bool) (w : World) (h : impl_in.f a0 a1 a2 = some r) :
  Calls Tryd.prog 54 #[.int .i64 a0, .int .i64 a1, .int .i64 a2] w fun e w' => e = .returned (.bool r) ∧ Drawn0 w w' := by
 have H : (if a1 ≤ a0 then (some (decide (a0 ≤ a2))) else (some false)) = some r := h
 clear h
 by_cases c4 : a1 ≤ a0
 ·rw [if_pos c4] at H
  have c4b0 : decide (a1 ≤ a0) = true := decide_eq_true c4
  clear c4
  obtain rfl := Option.some.inj H
  go_enter Tryd.func54, Tryd.ntmps54
  go_wp2
  go_ret
  exact ⟨by first | rfl | (simp; done) | (simp [*]; done), by repeat (first | exact Drawn0.refl _ | apply Drawn0.step)⟩
 rw [if_neg c4] at H
 have c4b0 : decide (a1 ≤ a0) = false := decide_eq_false c4
 clear c4
 obtain rfl := Option.some.inj H
 go_enter Tryd.func54, Tryd.ntmps54
 go_wp2
 go_ret
 exact ⟨by first | rfl | (simp; done) | (simp [*]; done), by repeat (first | exact Drawn0.refl _ | apply Drawn0.step)⟩
def impl_Runes.from : Nat → List UInt8 → List Int
  | 0, _ => []
  | n + 1, l => if l = [] then [] else ((Lib.decodeL l).1 : Int) :: impl_Runes.from n (l.drop (Lib.decodeL l).2)
def impl_Runes.f (a0 : ByteArray) : Option (List Int × Bool) := if (a0.size : Int) > 20000 then (some ([], false)) else (if Lib.validD a0.data.toList = true then (some (impl_Runes.from a0.size a0.data.toList, true)) else (some ([], false)))
theorem impl_Runes.iter_keep {α : Type} {d : Kd α} {e base : Nat} {ok : Nat → Prop} {W1 W2 w3 : World} {v : Value} {xs : List α} {k : Nat} {s : ByteArray} {pos : Nat} (hk : W1.heap[k]? = some (.stringIter s pos)) (hb : Below W1.heap.size W1 W2) (hR : Kd.R d e W2 base ok v xs) (hg : W2.grownBy w3 v.ownBlock) : w3.heap[k]? = some (.stringIter s pos) := by
  have hlt : k < W1.heap.size := (Array.getElem?_eq_some_iff.1 hk).1
  have h2 : W2.heap[k]? = some (.stringIter s pos) := (hb.block k hlt).trans hk
  have hlt2 : k < W2.heap.size := (Array.getElem?_eq_some_iff.1 h2).1
  rw [hg.block k hlt2 ?_]
  · exact h2
  · intro he
    obtain ⟨c, hc⟩ := Kd.R_typed hR k he.symm
    rw [h2] at hc
    cases hc
theorem impl_Runes.iter_R {e base : Nat} {W : World} {v : Value} {xs : List Int} {k : Nat} {s : ByteArray} {pos : Nat} (pos' : Nat) (hk : W.heap[k]? = some (.stringIter s pos)) (hR : Kd.R (Kd.int .i64) e W base (fun _ => True) v xs) : Kd.R (Kd.int .i64) e (W.iterAt k s pos') base (fun _ => True) v xs := by
  refine Kd.R_mono (Kd.R_step (Kd.R_tight2 rfl hR) (fun j hj _ => Lib.iterAt_other W k j s pos' ?_)) (fun _ _ => trivial)
  rintro rfl
  obtain ⟨c, hc⟩ := Kd.R_typed hR j hj.1.symm
  rw [hk] at hc
  cases hc
set_option maxHeartbeats 8000000 in
set_option maxRecDepth 100000 in
theorem impl_Runes.calls (a0 : ByteArray) (r1 : List Int) (r2 : Bool) (w : World) (hgl : GL w) (h : impl_Runes.f a0 = some (r1, r2)) :
    Calls Tryd.prog 76 #[.string a0] w fun e w' => ∃ v0_ : Value, e = .returned (.tuple #[v0_, .bool r2]) ∧ Kd.R (Kd.int .i64) 2 w' w.heap.size (fun _ => True) v0_ r1 ∧ Below w.heap.size w w' := by
  have HGL := Aside0.mk hgl
  clear hgl
  have HB := Aside0.mk (Below.refl w.heap.size w)
  have H : (if (a0.size : Int) > 20000 then (some ([], false)) else (if Lib.validD a0.data.toList = true then (some (impl_Runes.from a0.size a0.data.toList, true)) else (some ([], false)))) = some (r1, r2) := h
  clear h
  by_cases c2 : (a0.size : Int) > 20000
  · rw [if_pos c2] at H
    have c2b0 : decide (20000 < (a0.size : Int)) = true := decide_eq_true c2
    have c2b1 : decide (20000 < a0.size) = true := decide_eq_true (by omega)
    clear c2
    simp only [Option.some.injEq, Prod.mk.injEq] at H
    obtain ⟨rfl, rfl⟩ := H
    go_enter Tryd.func76, Tryd.ntmps76
    go_wp2
    go_ret2
    exact ⟨_, by first | rfl | (simp [*] <;> rfl), Kd.R_nil _ _ _ _ _, aB⟩
  rw [if_neg c2] at H
  have hn := Aside0.mk (show a0.size ≤ 20000 by omega)
  have c2b0 : decide (20000 < (a0.size : Int)) = false := decide_eq_false c2
  have c2b1 : decide (20000 < a0.size) = false := decide_eq_false (by omega)
  clear c2
  have CV : Aside0 (∀ w, GL w → Calls Tryd.prog 95 #[.string a0] w fun e w' => e = .returned (.bool (Lib.validD a0.data.toList)) ∧ Below w.heap.size w w') := ⟨fun w h => Any.utf8_ValidString Tryd.lays196 a0 w (by have := hn.out; omega) h.1⟩
  by_cases c3 : Lib.validD a0.data.toList = true
  rotate_left
  · rw [if_neg c3] at H
    simp only [Option.some.injEq, Prod.mk.injEq] at H
    obtain ⟨rfl, rfl⟩ := H
    rw [Bool.eq_false_iff.mpr c3] at CV
    clear c3
    go_enter Tryd.func76, Tryd.ntmps76
    go_wp2_with (go_at_call 95; (refine (CV.out _ (GL.below HGL.out aB)).mono ?_); rintro e w2 ⟨rfl, hb⟩; have n1_ := Aside0.mk (below_step aB hb); clear HB hb; have HB := n1_; clear n1_)
    go_ret2
    exact ⟨_, by first | rfl | (simp [*] <;> rfl), Kd.R_nil _ _ _ _ _, aB⟩
  rw [if_pos c3] at H
  simp only [Option.some.injEq, Prod.mk.injEq] at H
  obtain ⟨h1, rfl⟩ := H
  have H1 := Aside0.mk h1
  clear h1
  rw [c3] at CV
  clear c3
  go_enter Tryd.func76, Tryd.ntmps76
  go_wp2_with (first | (go_at_call 95; (refine (CV.out _ (GL.below HGL.out aB)).mono ?_); rintro e w2 ⟨rfl, hb⟩; have n1_ := Aside0.mk (below_step aB hb); clear HB hb; have HB := n1_; clear n1_) | ((with_reducible refine gate_dst (N := 15) rfl ?_); refine Kd.R_lit (Kd.int .i64) _ 2 ?hg (N := 15) ?hd (xs := ([] : List Int)) (inner := []) (ok := fun _ => True) (okp := fun _ => True) ?hr ?hp (fun _ hk => hk) trivial (Below.refl _ _) (Nat.le_refl _) (by simp) ?_; (case hd => rfl); (case hg => rfl); (case hr => first | (go_simp; done) | (go_simp; rfl)); (case hp => exact (Reps.none _ _)); intro v105 w3 ho4 hb hg_ hnew_; clear hg_ hnew_; have n0_ := Aside0.mk (Kd.R_lower ho4 (below_size aB)); have n1_ := Aside0.mk (below_step aB hb); clear HB; have HO106 := n0_; have HB := n1_; clear n0_ n1_; clear hb ho4))
  go_loopg [4] (a0.size + 1) (fun kq v4 w' => ∃ (pos f : Nat) (x4 : List Int), Aside0 (w'.heap[w3.heap.size]? = some (.stringIter a0 pos)) ∧ Aside0 (x4 ++ impl_Runes.from f (a0.data.toList.drop pos) = r1) ∧ Aside0 (a0.size ≤ pos + f ∧ f < kq) ∧ Aside0 (x4.length + f ≤ a0.size) ∧ Aside0 (Kd.R (Kd.int .i64) 2 w' w.heap.size (fun _ => True) v4 x4) ∧ Aside0 (Below w.heap.size w w') ∧ Aside0 (w.heap.size ≤ w3.heap.size))
  case atStart =>
    refine ⟨0, a0.size, [], ⟨?_⟩, ⟨by rw [List.drop_zero]; exact H1.out⟩, ⟨by omega, by omega⟩, ⟨by simp⟩, ⟨Kd.R_alloc HO106.out _⟩, ⟨below_alloc HB.out _⟩, ⟨below_size HB.out⟩⟩
    have := World.iter_heap w3 a0 0
    simpa using this
  case round =>
    clear H1 HO106 HB CV
    obtain ⟨pos, f, x4, HIT, HX, HF, HL, HO, HB, HS⟩ := hrel
    by_cases hp : pos < a0.size
    rotate_left
    · have hnx := fun ty => Lib.run_next_end_at (P := Tryd.prog) wr w3.heap.size a0 pos ty HIT.out hp
      have hx := HX.out
      rw [List.drop_eq_nil_of_le (by rw [data_length]; omega)] at hx
      have hnil : impl_Runes.from f [] = [] := by cases f <;> simp [impl_Runes.from]
      rw [hnil, List.append_nil] at hx
      subst hx
      clear HX hnil hp
      go_wp2
      go_ret2
      exact ⟨_, by first | rfl | (simp [*] <;> rfl), HO.out, HB.out⟩
    obtain ⟨f, rfl⟩ : ∃ f', f = f' + 1 := ⟨f - 1, by have := HF.out; omega⟩
    have hwd := Lib.decodeL_width (a0.data.toList.drop pos)
    have hmx := Lib.decodeL_rune (a0.data.toList.drop pos)
    have hle := decode_le a0 pos
    have hne : a0.data.toList.drop pos ≠ [] := by
      intro e
      have := congrArg List.length e
      rw [List.length_drop, List.length_nil, data_length] at this
      omega
    have hx := HX.out
    rw [impl_Runes.from, if_neg hne, List.drop_drop] at hx
    have hnx := fun ty => Lib.run_next_any_at (P := Tryd.prog) wr w3.heap.size a0 pos ty HIT.out hp
    rw [Lib.decodeL_drop] at hwd hmx hx
    have hit2 := Lib.iterAt_heap wr w3.heap.size a0 pos (pos + (Utf8.decode a0 pos).2) HIT.out
    have hbw2 := Lib.below_iterAt HB.out (k := w3.heap.size) HS.out a0 (pos + (Utf8.decode a0 pos).2)
    have hR2 := impl_Runes.iter_R (pos + (Utf8.decode a0 pos).2) HIT.out HO.out
    have e21 : ((Utf8.decode a0 pos).1 : Int) ≤ 1114111 := by omega
    generalize (Utf8.decode a0 pos).1 = rn at *
    generalize (Utf8.decode a0 pos).2 = rw_ at *
    generalize hW : wr.iterAt w3.heap.size a0 (pos + rw_) = W1 at *
    clear hW
    have NIT := Aside0.mk hit2
    have NB := Aside0.mk hbw2
    have NO := Aside0.mk hR2
    have NX := Aside0.mk hx
    have NW := Aside0.mk (And.intro hwd hle)
    have NR := Aside0.mk e21
    clear hit2 hbw2 hR2 hx hwd hle hmx hne e21 HIT HX HO HB
    have e64 : wrap64 ((rn : Nat) : Int) = rn := by have := NR.out; unfold wrap64; omega
    clear hp
    go_wp2_with (first | ((with_reducible refine gate_builtin (b := .append) (xs := #[.tmp 21, .tmp 24]) rfl ?_); at_builtin; refine Kd.R_append (Kd.int .i64) (w0 := w) w.heap.size rfl (.tmp 21) (.tmp 24) 38 2 (.int .i64 0) 8 rfl Tryd.underlying38 info2 rfl (by decide) (by omega) u4 x4 ((rn : Nat) : Int) [.int .i64 rn] (fun _ => True) (fun _ => False) rfl rfl ?aP (fun _ hk => hk.elim) ?aF ?aO ?aB ?aS ?aL ?_; (case aP => exact rfl); (case aB => exact (by repeat (first | (with_reducible first | exact NB.out | apply below_alloc | apply pw_below_drewN | apply below_drew1) | exact NB.out))); (case aF => exact (fun _ _ => trivial)); (case aO => exact (aP NO.out)); (case aS => exact (below_size (by repeat (first | (with_reducible first | exact NB.out | apply below_alloc | apply pw_below_drewN | apply below_drew1) | exact NB.out)))); (case aL => have := HL.out; have := hn.out; omega); intro v110 w11 ho hb hg hat; have n2_ := Aside0.mk (impl_Runes.iter_keep NIT.out (by repeat (first | (with_reducible first | exact Below.refl _ _ | apply below_alloc | apply pw_below_drewN | apply below_drew1) | exact Below.refl _ _)) (aP NO.out) hg); have n0_ := Aside0.mk (hb); have n1_ := Aside0.mk (ho); clear NB; clear NO; have NB := n0_; have HO111 := n1_; have NIT2 := n2_; clear n0_ n1_ n2_; clear ho hb hg hat))
    go_roundg (f + 1)
    case measure => have := HF.out; omega
    case rel =>
      refine ⟨pos + rw_, f, x4 ++ [((rn : Nat) : Int)], ⟨NIT2.out⟩, ⟨?_⟩, ⟨?_, ?_⟩, ⟨?_⟩, ⟨HO111.out⟩, ⟨NB.out⟩, HS⟩
      · rw [List.append_assoc]; exact NX.out
      · have := HF.out; have := NW.out; omega
      · omega
      · have := HL.out; rw [List.length_append]; simp only [List.length_cons, List.length_nil]; omega
def impl_CharOk.f (a0 : Int) : Option (Bool) := if a0 = 9 then (some true) else (if a0 = 10 then (some true) else (if a0 = 13 then (some true) else ((impl_in.f a0 32 55295).bind fun t256 => (if t256 = true then (some true) else ((impl_in.f a0 57344 65533).bind fun t257 => (if t257 = true then (some true) else ((impl_in.f a0 65536 1114111).bind fun t258 => (some t258))))))))
set_option maxHeartbeats 8000000 in
set_option maxRecDepth 100000 in
theorem impl_CharOk.calls (a0 : Int) (r : Bool) (w : World) (h : impl_CharOk.f a0 = some r) :
  Calls Tryd.prog 77 #[.int .i64 a0] w fun e w' => e = .returned (.bool r) ∧ Drawn0 w w' := by
 have H : (if a0 = 9 then (some true) else (if a0 = 10 then (some true) else (if a0 = 13 then (some true) else ((impl_in.f a0 32 55295).bind fun t256 => (if t256 = true then (some true) else ((impl_in.f a0 57344 65533).bind fun t257 => (if t257 = true then (some true) else ((impl_in.f a0 65536 1114111).bind fun t258 => (some t258))))))))) = some r := h
 clear h
 by_cases c2 : a0 = 9
 ·rw [if_pos c2] at H
  have c2b0 : (a0 == 9) = true := beq_iff_eq.mpr c2
  have c2b1 : (a0 != 9) = false := bne_eq_false_iff_eq.mpr c2
  clear c2
  obtain rfl := Option.some.inj H
  go_enter Tryd.func77, Tryd.ntmps77
  go_wp2
  go_ret
  exact ⟨by first | rfl | (simp; done) | (simp [*]; done), by repeat (first | exact Drawn0.refl _ | apply Drawn0.step)⟩
 rw [if_neg c2] at H
 have c2b0 : (a0 == 9) = false := beq_eq_false_iff_ne.mpr c2
 have c2b1 : (a0 != 9) = true := bne_iff_ne.mpr c2
 by_cases c3 : a0 = 10
 ·rw [if_pos c3] at H
  have c3b0 : (a0 == 10) = true := beq_iff_eq.mpr c3
  have c3b1 : (a0 != 10) = false := bne_eq_false_iff_eq.mpr c3
  clear c3
  obtain rfl := Option.some.inj H
  go_enter Tryd.func77, Tryd.ntmps77
  go_wp2
  go_ret
  exact ⟨by first | rfl | (simp; done) | (simp [*]; done), by repeat (first | exact Drawn0.refl _ | apply Drawn0.step)⟩
 rw [if_neg c3] at H
 have c3b0 : (a0 == 10) = false := beq_eq_false_iff_ne.mpr c3
 have c3b1 : (a0 != 10) = true := bne_iff_ne.mpr c3
 by_cases c4 : a0 = 13
 ·rw [if_pos c4] at H
  have c4b0 : (a0 == 13) = true := beq_iff_eq.mpr c4
  have c4b1 : (a0 != 13) = false := bne_eq_false_iff_eq.mpr c4
  clear c4
  obtain rfl := Option.some.inj H
  go_enter Tryd.func77, Tryd.ntmps77
  go_wp2
  go_ret
  exact ⟨by first | rfl | (simp; done) | (simp [*]; done), by repeat (first | exact Drawn0.refl _ | apply Drawn0.step)⟩
 rw [if_neg c4] at H
 have c4b0 : (a0 == 13) = false := beq_eq_false_iff_ne.mpr c4
 have c4b1 : (a0 != 13) = true := bne_iff_ne.mpr c4
 replace H := Option.bind_eq_some_iff.mp H
 obtain ⟨t256, A50, H⟩ := H
 replace H : (if t256 = true then (some true) else ((impl_in.f a0 57344 65533).bind fun t257 => (if t257 = true then (some true) else ((impl_in.f a0 65536 1114111).bind fun t258 => (some t258))))) = some r := H
 have A5 := Aside0.mk A50
 clear A50
 by_cases c6 : t256 = true
 ·subst c6
  have H1 : (some true) = some r := by rw [if_pos rfl] at H; exact H
  clear H
  have H := H1
  clear H1
  obtain rfl := Option.some.inj H
  go_enter Tryd.func77, Tryd.ntmps77
  go_wp2_with (first | (go_at_call 54; (with_reducible refine (impl_in.calls a0 32 55295 true _ A5.out).mono ?_); rintro e w' ⟨rfl, ⟨nd, rfl⟩⟩))
  go_ret
  exact ⟨by first | rfl | (simp; done) | (simp [*]; done), by repeat (first | exact Drawn0.refl _ | apply Drawn0.step)⟩
 replace c6 := Bool.eq_false_iff.mpr c6
 subst c6
 have H1 : ((impl_in.f a0 57344 65533).bind fun t257 => (if t257 = true then (some true) else ((impl_in.f a0 65536 1114111).bind fun t258 => (some t258)))) = some r := by rw [if_neg (show ¬ (false = true) by decide)] at H; exact H
 clear H
 have H := H1
 clear H1
 replace H := Option.bind_eq_some_iff.mp H
 obtain ⟨t257, A70, H⟩ := H
 replace H : (if t257 = true then (some true) else ((impl_in.f a0 65536 1114111).bind fun t258 => (some t258))) = some r := H
 have A7 := Aside0.mk A70
 clear A70
 by_cases c8 : t257 = true
 ·subst c8
  have H1 : (some true) = some r := by rw [if_pos rfl] at H; exact H
  clear H
  have H := H1
  clear H1
  obtain rfl := Option.some.inj H
  go_enter Tryd.func77, Tryd.ntmps77
  go_wp2_with (first | (go_at_call 54; (with_reducible refine (impl_in.calls a0 32 55295 false _ A5.out).mono ?_); rintro e w' ⟨rfl, ⟨nd, rfl⟩⟩) | (go_at_call 54; (with_reducible refine (impl_in.calls a0 57344 65533 true _ A7.out).mono ?_); rintro e w' ⟨rfl, ⟨nd, rfl⟩⟩))
  go_ret
  exact ⟨by first | rfl | (simp; done) | (simp [*]; done), by repeat (first | exact Drawn0.refl _ | apply Drawn0.step)⟩
 replace c8 := Bool.eq_false_iff.mpr c8
 subst c8
 have H1 : ((impl_in.f a0 65536 1114111).bind fun t258 => (some t258)) = some r := by rw [if_neg (show ¬ (false = true) by decide)] at H; exact H
 clear H
 have H := H1
 clear H1
 replace H := Option.bind_eq_some_iff.mp H
 obtain ⟨t258, A90, H⟩ := H
 replace H : (some t258) = some r := H
 have A9 := Aside0.mk A90
 clear A90
 obtain rfl := Option.some.inj H
 go_enter Tryd.func77, Tryd.ntmps77
 go_wp2_with (first | (go_at_call 54; (with_reducible refine (impl_in.calls a0 32 55295 false _ A5.out).mono ?_); rintro e w' ⟨rfl, ⟨nd, rfl⟩⟩) | (go_at_call 54; (with_reducible refine (impl_in.calls a0 57344 65533 false _ A7.out).mono ?_); rintro e w' ⟨rfl, ⟨nd, rfl⟩⟩) | (go_at_call 54; (with_reducible refine (impl_in.calls a0 65536 1114111 t258 _ A9.out).mono ?_); rintro e w' ⟨rfl, ⟨nd, rfl⟩⟩))
 go_ret
 exact ⟨by first | rfl | (simp; done) | (simp [*]; done), by repeat (first | exact Drawn0.refl _ | apply Drawn0.step)⟩
def impl_isPlain.l0 : Nat → Bool → List Int → Int → Int → Option (Bool)
 | 0, _, _, _, _ => none
 | k + 1, x4, x12, x13, x14 => if x14 < x13 then (if 0 ≤ x14 then (if x14 < (x12.length : Int) then (if x4 = true then ((impl_CharOk.f (rd x12 x14)).bind fun t264 => (impl_isPlain.l0 k t264 x12 x13 (wrap64 (x14 + 1)))) else (impl_isPlain.l0 k false x12 x13 (wrap64 (x14 + 1)))) else (none)) else (none)) else (some x4)
def impl_isPlain.f (k : Nat) (a0 : ByteArray) : Option (Bool) := (impl_Runes.f a0).bind fun bt259 => (impl_isPlain.l0 k bt259.2 bt259.1 (bt259.1.length : Int) 0)
set_option maxHeartbeats 8000000 in
set_option maxRecDepth 100000 in
theorem impl_isPlain.calls (k : Nat) (a0 : ByteArray) (r : Bool) (w : World) (hgl : GL w) (h : impl_isPlain.f k a0 = some r) :
  Calls Tryd.prog 39 #[.string a0] w fun e w' => e = .returned (.bool r) ∧ Below w.heap.size w w' := by
 have HGL := Aside0.mk hgl
 clear hgl
 have HB := Aside0.mk (Below.refl w.heap.size w)
 have H : ((impl_Runes.f a0).bind fun bt259 => (impl_isPlain.l0 k bt259.2 bt259.1 (bt259.1.length : Int) 0)) = some r := h
 clear h
 replace H := Option.bind_eq_some_iff.mp H
 obtain ⟨⟨t259, t260⟩, A20, H⟩ := H
 replace H : (impl_isPlain.l0 k t260 t259 (t259.length : Int) 0) = some r := H
 have A2 := Aside0.mk A20
 clear A20
 have H' := Aside0.mk H
 clear H
 go_enter Tryd.func39, Tryd.ntmps39
 go_wp2_with (first | ((with_reducible refine gate_callee (f := 76) rfl ?_); refine goesL_ (some 9) rfl rfl Tryd.func76 (by kernel_rfl) rfl #[.string a0] rfl aG ?_; (with_reducible refine (impl_Runes.calls a0 t259 t260 _ ?side1 A2.out).mono ?_); (case side1 => exact GL.below HGL.out aB); rintro e w3 ⟨v261, rfl, ho0, hb⟩; refine ⟨_, rfl, ?_⟩; have n0_ := Aside0.mk (Kd.R_lower ho0 (below_size aB)); have n1_ := Aside0.mk (below_step aB hb); clear HB; have HO262 := n0_; have HB := n1_; clear n0_ n1_; (try clear hb); (try clear hb2); (try clear hk); (try clear hi); (try clear ho0); obtain ⟨Ao4, co4, eo4⟩ := Kd.R_slice HO262.out; subst eo4))
 go_loopg [4, 14] k (fun kq v4 v14 w' => ∃ (x4_1 : Bool) (x14_1 : Int), v4 = .bool x4_1 ∧ v14 = .int .i64 x14_1 ∧ Aside0 (impl_isPlain.l0 kq x4_1 t259 (t259.length : Int) x14_1 = some r) ∧ Aside0 (kq ≤ k) ∧ Aside0 (Kd.R (Kd.int .i64) 2 w' w.heap.size (fun _ => True) (.slice Ao4 t259.length co4) t259) ∧ Aside0 (Below w.heap.size w w'))
 case atStart => exact ⟨(t260), (0), aR, aR, H', ⟨Nat.le_refl _⟩, ⟨aP HO262.out⟩, ⟨aB⟩⟩
 case round =>
  clear H'
  try clear p2
  try clear c3
  obtain ⟨x4_1, x14_1, rfl, rfl, HA, HK1, HO_12, HB⟩ := hrel
  cases gk with
  | zero => exact absurd HA.out (by simp [impl_isPlain.l0])
  | succ k1 =>
   have H := HA.out
   clear HA
   simp only [impl_isPlain.l0] at H
   by_cases c5 : x14_1 < (t259.length : Int)
   rotate_left
   ·rw [if_neg c5] at H
    have c5b0 : decide (x14_1 < (t259.length : Int)) = false := decide_eq_false c5
    clear c5
    obtain rfl := Option.some.inj H
    go_wp2
    go_ret
    exact ⟨aS, aB⟩
   rw [if_pos c5] at H
   have c5b0 : decide (x14_1 < (t259.length : Int)) = true := decide_eq_true c5
   clear c5
   by_cases c6 : 0 ≤ x14_1
   rotate_left
   ·rw [if_neg c6] at H
    exact absurd H (by simp)
   rw [if_pos c6] at H
   have c6b0 : decide (0 ≤ x14_1) = true := decide_eq_true c6
   clear c6
   by_cases c7 : x14_1 < (t259.length : Int)
   rotate_left
   ·rw [if_neg c7] at H
    exact absurd H (by simp)
   rw [if_pos c7] at H
   have c7b0 : decide (x14_1 < (t259.length : Int)) = true := decide_eq_true c7
   clear c7
   by_cases c8 : x4_1 = true
   rotate_left
   ·replace c8 := Bool.eq_false_iff.mpr c8
    subst c8
    have H1 : (impl_isPlain.l0 k1 false t259 (t259.length : Int) (wrap64 (x14_1 + 1))) = some r := by rw [if_neg (show ¬ (false = true) by decide)] at H; exact H
    clear H
    have H := H1
    clear H1
    have H' := Aside0.mk H
    clear H
    have p263 : 0 ≤ (x14_1 : Int) := aD
    have q263 : x14_1 < (t259.length : Int) := aD
    obtain ⟨ad263, e263, hx263_0⟩ := Kd.at_int (Kd.R_reads' HO_12.out).2.2 x14_1 p263 q263
    cases e263
    replace p263 := eq_true p263
    replace q263 := eq_true q263
    go_wp2
    go_roundg k1
    case measure => have := HK1.out; omega
    case rel => exact ⟨(false), (wrap64 (x14_1 + 1)), aR, aR, H', ⟨by have := HK1.out; omega⟩, ⟨aP HO_12.out⟩, ⟨aB⟩⟩
   subst c8
   have H1 : ((impl_CharOk.f (rd t259 x14_1)).bind fun t264 => (impl_isPlain.l0 k1 t264 t259 (t259.length : Int) (wrap64 (x14_1 + 1)))) = some r := by rw [if_pos rfl] at H; exact H
   clear H
   have H := H1
   clear H1
   replace H := Option.bind_eq_some_iff.mp H
   obtain ⟨t264, A90, H⟩ := H
   replace H : (impl_isPlain.l0 k1 t264 t259 (t259.length : Int) (wrap64 (x14_1 + 1))) = some r := H
   have A9 := Aside0.mk A90
   clear A90
   have H' := Aside0.mk H
   clear H
   have p263 : 0 ≤ (x14_1 : Int) := aD
   have q263 : x14_1 < (t259.length : Int) := aD
   obtain ⟨ad263, e263, hx263_0⟩ := Kd.at_int (Kd.R_reads' HO_12.out).2.2 x14_1 p263 q263
   cases e263
   replace p263 := eq_true p263
   replace q263 := eq_true q263
   go_wp2_with (first | (go_at_call 77; (with_reducible refine (impl_CharOk.calls (rd t259 x14_1) t264 _ A9.out).mono ?_); rintro e w' ⟨rfl, ⟨nd, rfl⟩⟩))
   go_roundg k1
   case measure => have := HK1.out; omega
   case rel => exact ⟨(t264), (wrap64 (x14_1 + 1)), aR, aR, H', ⟨by have := HK1.out; omega⟩, ⟨aP HO_12.out⟩, ⟨aB⟩⟩
def stringslite_IndexByte.f (a0 : ByteArray) (a1 : Int) : Option (Int) := some (Lib.indexByte a0.data.toList a1.toNat.toUInt8)
set_option maxHeartbeats 8000000 in
set_option maxRecDepth 100000 in
theorem stringslite_IndexByte.calls (a0 : ByteArray) (a1 : Int) (r : Int) (w : World) (h : stringslite_IndexByte.f a0 a1 = some r) :
    Calls Tryd.prog 119 #[.string a0, .int .u8 a1] w fun e w' => e = .returned (.int .i64 r) ∧ Drawn0 w w' := by
  obtain rfl := Option.some.inj h
  clear h
  go_enter Tryd.func119, Tryd.ntmps119
  go_wp2
  rw [run_callFunc_extern Tryd.func139 (by kernel_rfl) (by kernel_rfl) (by kernel_rfl) (e := Extern.BytealgIndexByte.indexByte) (by kernel_rfl), Lib.run_indexByteString]
  simp only [Result.andThen]
  rw [Oper.upon_value]
  go_wp2
  go_ret
  exact ⟨rfl, Drawn0.refl _⟩
def stringslite_Index.f (a0 : ByteArray) (a1 : ByteArray) : Option (Int) := if (a1.size : Int) = 1 then (if a1.toList = a0.toList then (some 0) else (stringslite_IndexByte.f a0 (bt a1 0))) else none
set_option maxHeartbeats 8000000 in
set_option maxRecDepth 100000 in
theorem stringslite_Index.calls (a0 : ByteArray) (a1 : ByteArray) (r : Int) (w : World) (h : stringslite_Index.f a0 a1 = some r) :
    Calls Tryd.prog 96 #[.string a0, .string a1] w fun e w' => e = .returned (.int .i64 r) ∧ Drawn0 w w' := by
  have H : (if (a1.size : Int) = 1 then (if a1.toList = a0.toList then (some 0) else (stringslite_IndexByte.f a0 (bt a1 0))) else none) = some r := h
  clear h
  by_cases c1 : (a1.size : Int) = 1
  rotate_left
  · rw [if_neg c1] at H
    cases H
  rw [if_pos c1] at H
  have c1b0 : ((a1.size : Int) == 1) = true := beq_iff_eq.mpr c1
  have c1b1 : ((a1.size : Int) == 0) = false := beq_eq_false_iff_ne.mpr (by omega)
  have q6 : 0 < a1.size := by omega
  have hx6 : ∀ h : 0 < a1.size, ((a1[0]'h).toNat : Int) = bt a1 0 := bt_at a1 0
  have qi6 : (0 < (a1.size : Int)) = True := eq_true (by omega)
  replace q6 := eq_true q6
  clear c1
  by_cases c2 : a1.toList = a0.toList
  · rw [if_pos c2] at H
    have c2b0 : (a1.toList == a0.toList) = true := beq_iff_eq.mpr c2
    clear c2
    obtain rfl := Option.some.inj H
    go_enter Tryd.func96, Tryd.ntmps96
    go_wp2
    go_ret
    exact ⟨by first | rfl | (simp; done) | (simp [*]; done), by repeat (first | exact Drawn0.refl _ | apply Drawn0.step)⟩
  rw [if_neg c2] at H
  have c2b0 : (a1.toList == a0.toList) = false := beq_eq_false_iff_ne.mpr c2
  clear c2
  have H' := Aside0.mk H
  clear H
  go_enter Tryd.func96, Tryd.ntmps96
  go_wp2_with (first | (go_at_call 119; (with_reducible refine (stringslite_IndexByte.calls a0 (bt a1 0) r _ H'.out).mono ?_); rintro e w' ⟨rfl, ⟨nd, rfl⟩⟩))
  go_ret
  exact ⟨by first | rfl | (simp; done) | (simp [*]; done), by repeat (first | exact Drawn0.refl _ | apply Drawn0.step)⟩
def stringslite_Cut.f (a0 : ByteArray) (a1 : ByteArray) : Option (ByteArray × ByteArray × Bool) := (stringslite_Index.f a0 a1).bind fun t265 => (if t265 ≥ 0 then (if 0 ≤ t265 then (if t265 ≤ (a0.size : Int) then (if 0 ≤ (wrap64 (t265 + (a1.size : Int))) then (if (wrap64 (t265 + (a1.size : Int))) ≤ (a0.size : Int) then (some (a0.extract 0 (t265 : Int).toNat, a0.extract ((wrap64 (t265 + (a1.size : Int))) : Int).toNat a0.size, true)) else (none)) else (none)) else (none)) else (none)) else (some (a0, (⟨#[]⟩ : ByteArray), false)))
set_option maxHeartbeats 8000000 in
set_option maxRecDepth 100000 in
theorem stringslite_Cut.calls (a0 : ByteArray) (a1 : ByteArray) (r1 : ByteArray) (r2 : ByteArray) (r3 : Bool) (w : World) (h : stringslite_Cut.f a0 a1 = some (r1, r2, r3)) :
  Calls Tryd.prog 79 #[.string a0, .string a1] w fun e w' => e = .returned (.tuple #[.string r1, .string r2, .bool r3]) ∧ Drawn0 w w' := by
 have H : ((stringslite_Index.f a0 a1).bind fun t265 => (if t265 ≥ 0 then (if 0 ≤ t265 then (if t265 ≤ (a0.size : Int) then (if 0 ≤ (wrap64 (t265 + (a1.size : Int))) then (if (wrap64 (t265 + (a1.size : Int))) ≤ (a0.size : Int) then (some (a0.extract 0 (t265 : Int).toNat, a0.extract ((wrap64 (t265 + (a1.size : Int))) : Int).toNat a0.size, true)) else (none)) else (none)) else (none)) else (none)) else (some (a0, (⟨#[]⟩ : ByteArray), false)))) = some (r1, r2, r3) := h
 clear h
 replace H := Option.bind_eq_some_iff.mp H
 obtain ⟨t265, A30, H⟩ := H
 replace H : (if t265 ≥ 0 then (if 0 ≤ t265 then (if t265 ≤ (a0.size : Int) then (if 0 ≤ (wrap64 (t265 + (a1.size : Int))) then (if (wrap64 (t265 + (a1.size : Int))) ≤ (a0.size : Int) then (some (a0.extract 0 (t265 : Int).toNat, a0.extract ((wrap64 (t265 + (a1.size : Int))) : Int).toNat a0.size, true)) else (none)) else (none)) else (none)) else (none)) else (some (a0, (⟨#[]⟩ : ByteArray), false))) = some (r1, r2, r3) := H
 have A3 := Aside0.mk A30
 clear A30
 by_cases c4 : t265 ≥ 0
 rotate_left
 ·rw [if_neg c4] at H
  have c4b0 : decide (0 ≤ t265) = false := decide_eq_false c4
  clear c4
  simp only [Option.some.injEq, Prod.mk.injEq] at H
  obtain ⟨rfl, rfl, rfl⟩ := H
  go_enter Tryd.func79, Tryd.ntmps79
  go_wp2_with (first | (go_at_call 96; (with_reducible refine (stringslite_Index.calls a0 a1 t265 _ A3.out).mono ?_); rintro e w' ⟨rfl, ⟨nd, rfl⟩⟩; (try first | exact aZ1 | exact aZ2)))
  repeat (go_quiet (first | (go_at_call 96; (with_reducible refine (stringslite_Index.calls a0 a1 t265 _ A3.out).mono ?_); rintro e w' ⟨rfl, ⟨nd, rfl⟩⟩; (try first | exact aZ1 | exact aZ2))); try go_wp2_with (first | (go_at_call 96; (with_reducible refine (stringslite_Index.calls a0 a1 t265 _ A3.out).mono ?_); rintro e w' ⟨rfl, ⟨nd, rfl⟩⟩; (try first | exact aZ1 | exact aZ2))))
  go_ret3
  exact ⟨by first | rfl | (simp; done) | (simp [*]; done), by repeat (first | exact Drawn0.refl _ | apply Drawn0.step)⟩
 rw [if_pos c4] at H
 have c4b0 : decide (0 ≤ t265) = true := decide_eq_true c4
 clear c4
 by_cases c5 : 0 ≤ t265
 rotate_left
 ·rw [if_neg c5] at H
  exact absurd H (by simp)
 rw [if_pos c5] at H
 have c5b0 := eq_true c5
 have c5b1 : decide (0 ≤ t265) = true := decide_eq_true c5
 clear c5
 by_cases c6 : t265 ≤ (a0.size : Int)
 rotate_left
 ·rw [if_neg c6] at H
  exact absurd H (by simp)
 rw [if_pos c6] at H
 have c6b0 := eq_true c6
 have c6b1 : decide (t265 ≤ (a0.size : Int)) = true := decide_eq_true c6
 clear c6
 obtain ⟨ji7, hji7⟩ : ∃ j_ : Int, (wrap64 (t265 + (a1.size : Int))) = j_ := ⟨_, rfl⟩
 replace H : (if 0 ≤ (ji7) then (if (ji7) ≤ (a0.size : Int) then (some (a0.extract 0 (t265 : Int).toNat, a0.extract ((ji7) : Int).toNat a0.size, true)) else (none)) else (none)) = some (r1, r2, r3) := by first | (rw [hji7] at H; exact H) | (simp only [hji7] at H ⊢; exact H)
 (try rw [hji7] at A3)
 have hji7w : (IntKind.i64.wrap (t265 + (a1.size : Int))) = ji7 := (i64_w _).trans hji7
 by_cases c8 : 0 ≤ (ji7)
 rotate_left
 ·rw [if_neg c8] at H
  exact absurd H (by simp)
 rw [if_pos c8] at H
 have c8b0 := eq_true c8
 have c8b1 : decide (0 ≤ (ji7)) = true := decide_eq_true c8
 clear c8
 by_cases c9 : (ji7) ≤ (a0.size : Int)
 rotate_left
 ·rw [if_neg c9] at H
  exact absurd H (by simp)
 rw [if_pos c9] at H
 have c9b0 := eq_true c9
 have c9b1 : decide ((ji7) ≤ (a0.size : Int)) = true := decide_eq_true c9
 clear c9
 simp only [Option.some.injEq, Prod.mk.injEq] at H
 obtain ⟨rfl, rfl, rfl⟩ := H
 go_enter Tryd.func79, Tryd.ntmps79
 go_wp2_with (first | (go_at_call 96; (with_reducible refine (stringslite_Index.calls a0 a1 t265 _ A3.out).mono ?_); rintro e w' ⟨rfl, ⟨nd, rfl⟩⟩; (try first | exact aZ1 | exact aZ2)))
 repeat (go_quiet (first | (go_at_call 96; (with_reducible refine (stringslite_Index.calls a0 a1 t265 _ A3.out).mono ?_); rintro e w' ⟨rfl, ⟨nd, rfl⟩⟩; (try first | exact aZ1 | exact aZ2))); try go_wp2_with (first | (go_at_call 96; (with_reducible refine (stringslite_Index.calls a0 a1 t265 _ A3.out).mono ?_); rintro e w' ⟨rfl, ⟨nd, rfl⟩⟩; (try first | exact aZ1 | exact aZ2))))
 go_ret3
 exact ⟨by first | rfl | (simp; done) | (simp only [← hji7] <;> (first | rfl | simp)) | (simp [*]; done), by repeat (first | exact Drawn0.refl _ | apply Drawn0.step)⟩
def strings_Cut.f (a0 : ByteArray) (a1 : ByteArray) : Option (ByteArray × ByteArray × Bool) := (stringslite_Cut.f a0 a1).bind fun bt266 => (some (bt266.1, bt266.2.1, bt266.2.2))
set_option maxHeartbeats 8000000 in
set_option maxRecDepth 100000 in
theorem strings_Cut.calls (a0 : ByteArray) (a1 : ByteArray) (r1 : ByteArray) (r2 : ByteArray) (r3 : Bool) (w : World) (h : strings_Cut.f a0 a1 = some (r1, r2, r3)) :
  Calls Tryd.prog 41 #[.string a0, .string a1] w fun e w' => e = .returned (.tuple #[.string r1, .string r2, .bool r3]) ∧ Drawn0 w w' := by
 have H : ((stringslite_Cut.f a0 a1).bind fun bt266 => (some (bt266.1, bt266.2.1, bt266.2.2))) = some (r1, r2, r3) := h
 clear h
 replace H := Option.bind_eq_some_iff.mp H
 obtain ⟨⟨t266, t267, t268⟩, A30, H⟩ := H
 replace H : (some (t266, t267, t268)) = some (r1, r2, r3) := H
 have A3 := Aside0.mk A30
 clear A30
 simp only [Option.some.injEq, Prod.mk.injEq] at H
 obtain ⟨rfl, rfl, rfl⟩ := H
 go_enter Tryd.func41, Tryd.ntmps41
 go_wp2_with (first | ((with_reducible refine gate_callee (f := 79) rfl ?_); refine goesL_ (some 9) rfl rfl Tryd.func79 (by kernel_rfl) rfl #[.string a0, .string a1] rfl aG ?_; (with_reducible refine (stringslite_Cut.calls a0 a1 t266 t267 t268 _ A3.out).mono ?_); rintro e w' ⟨rfl, ⟨nd, rfl⟩⟩; refine ⟨_, rfl, ?_⟩))
 go_ret3
 exact ⟨by first | rfl | (simp; done) | (simp [*]; done), by repeat (first | exact Drawn0.refl _ | apply Drawn0.step)⟩
end Go.Proofs.YtbhklkpjjpkblaaDoor.PI
