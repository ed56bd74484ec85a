import Derived.Test.YtbhklkpjjpkblaaGreatDoorHShort
import Derived.Test.YtbhklkpjjpkblaaGreatDoorPPx0
import Derived.Test.YtbhklkpjjpkblaaGreatDoorPPx8
namespace Go.Proofs.YtbhklkpjjpkblaaGreatDoor.PP
open Go.RowKit Go.Proofs.YtbhklkpjjpkblaaGreatDoorW.PrintWords Go.Proofs.YtbhklkpjjpkblaaGreatDoorW.PrintLast Go.Proofs.YtbhklkpjjpkblaaGreatDoorW.PrintMore Go.Proofs.YtbhklkpjjpkblaaGreatDoorW.WordsB Go.Proofs.YtbhklkpjjpkblaaGreatDoorW.GlM Go.Proofs.YtbhklkpjjpkblaaGreatDoorW.Short
attribute [local go_sem] max2_int min2_int max_two min_two max_three min_three max_four min_four
set_option linter.unusedVariables false
set_option linter.unusedSimpArgs false
def impl_below.l0 : Nat → List (List Int) → List (S39) → Int → Int → Option ((List (List Int)))
 | 0, _, _, _, _ => none
 | k + 1, x3, x9, x10, x11 => if x11 < x10 then (if 0 ≤ x11 then (if x11 < (x9.length : Int) then (if ((rd_T39 x9 x11).f0) ≥ 0 then (if 0 ≤ ((rd_T39 x9 x11).f0) then (if ((rd_T39 x9 x11).f0) < (x3.length : Int) then (if (rd_L8 x3 ((rd_T39 x9 x11).f0)).length < 17592186044416 then (impl_below.l0 k (x3.set (((rd_T39 x9 x11).f0) : Int).toNat ((rd_L8 x3 ((rd_T39 x9 x11).f0)) ++ [x11])) x9 x10 (wrap64 (x11 + 1))) else (none)) else (none)) else (none)) else (impl_below.l0 k x3 x9 x10 (wrap64 (x11 + 1)))) else (none)) else (none)) else (some x3)
def impl_below.f (k : Nat) (l0 : List (S39)) : Option ((List (List Int))) := if 0 ≤ (l0.length : Int) then (if ((l0.length : Int) : Int).toNat ≤ 11728124029610 then (impl_below.l0 k (List.replicate ((l0.length : Int) : Int).toNat []) l0 (l0.length : Int) 0) else (none)) else (none)
def impl_below.T6 : Bool × List (List Nat × List Nat) := (true, [([], []), ([], []), ([1], [1]), ([], []), ([], []), ([4], [4]), ([3, 5], [3, 5]), ([6], [6]), ([], []), ([8], [8]), ([7, 9], [7, 9]), ([0, 2, 0, 1, 2, 3, 4, 5, 6, 7, 8, 9, 10], [0, 2]), ([11, 10, 10, 0, 1, 2, 3, 4, 5, 6, 7, 8, 9, 10], [10, 11])])
def impl_below.B6 : List Nat := [0, 0, 2, 0, 0, 16, 56, 120, 0, 256, 1016, 2047, 4095]
theorem impl_below.tab6 : rtab .any (opsOf Tryz.f15 6) = impl_below.T6 := by kernel_rfl
theorem impl_below.bits6 : waitsOk impl_below.T6.2 impl_below.B6 = true := by kernel_rfl
set_option maxHeartbeats 8000000 in
set_option maxRecDepth 100000 in
theorem impl_below.calls (k : Nat) (A0 : Option Addr) (c0 : Nat) (l0 : List (S39)) (r : List (List Int)) (w : World) (hr0 : Kd.C k39 w A0 l0.length l0) (hc0 : l0.length ≤ c0) (h : impl_below.f k l0 = some r) :
  Calls Tryz.prog 15 #[.slice A0 l0.length c0] w fun e w' => ∃ v0_ : Value, e = .returned (v0_) ∧ Kd.S (Kd.slice 2 (Kd.int .i64)) 59 w' w.heap.size (fun _ => True) v0_ r ∧ Below w.heap.size w w' := by
 have hu39 := Tryz.underlying39
 have HR0 := Aside0.mk hr0
 have HC0 := Aside0.mk hc0
 clear hr0 hc0
 have HB := Aside0.mk (Below.refl w.heap.size w)
 have H : (if 0 ≤ (l0.length : Int) then (if ((l0.length : Int) : Int).toNat ≤ 11728124029610 then (impl_below.l0 k (List.replicate ((l0.length : Int) : Int).toNat []) l0 (l0.length : Int) 0) else (none)) else (none)) = some r := h
 clear h
 by_cases c2 : 0 ≤ (l0.length : Int)
 rotate_left
 ·rw [if_neg c2] at H
  exact absurd H (by simp)
 rw [if_pos c2] at H
 have c2b0 := eq_true c2
 have c2b1 : decide (0 ≤ (l0.length : Int)) = true := decide_eq_true c2
 clear c2
 by_cases c3 : ((l0.length : Int) : Int).toNat ≤ 11728124029610
 rotate_left
 ·rw [if_neg c3] at H
  exact absurd H (by simp)
 rw [if_pos c3] at H
 have c3b0 := eq_true c3
 have c3b1 : decide (((l0.length : Int) : Int).toNat ≤ 11728124029610) = true := decide_eq_true c3
 clear c3
 obtain ⟨y256, hy256⟩ : ∃ y_ : List (List Int), y_ = (List.replicate ((l0.length : Int) : Int).toNat []) := ⟨_, rfl⟩
 replace H : (impl_below.l0 k y256 l0 (l0.length : Int) 0) = some r := by first | (rw [hy256]; with_reducible exact H) | (have H2_ := (Option.bind_some _ _).symm.trans H; rw [hy256]; with_reducible exact H2_) | (have H2_ := (Option.bind_some _ _).symm.trans H; with_reducible exact H2_) | with_reducible exact H | (rw [hy256]; exact H) | exact H
 have Ny256 := Aside0.mk hy256
 clear hy256
 have H' := Aside0.mk H
 clear H
 go_enter Tryz.func15, Tryz.ntmps15
 go_wp2_with (first | ((with_reducible refine gate_dst (N := 8) rfl ?_); refine Kd.S_make (Kd.slice 2 (Kd.int .i64)) _ 59 rfl (N := 8) rfl 46 _ _ rfl (l0.length : Int) rfl rfl Tryz.underlying46 (.slice none 0 0) 24 info59 rfl (by decide) (by omega) [] (ok := fun _ => True) (okp := fun _ => True) ⟨_, rfl, Kd.R_nil _ _ _ _ _⟩ (fun _ hk => hk) trivial (aD) (Nat.le_trans (Nat.mul_le_mul_right _ (aD : (l0.length : Int).toNat ≤ 11728124029610)) (by omega)) (Below.refl _ _) (Nat.le_refl _) ?_; intro v257 w4 ho5 hb hg_ hnew_; clear hg_ hnew_; (first | rw [← Ny256.out] at ho5 | (simp only [Int.reduceToNat] at ho5; rw [← Ny256.out] at ho5)); have n0_ := Aside0.mk (Kd.S_lower ho5 (below_size aB)); have n1_ := Aside0.mk (below_step aB hb); clear HB; have HO258 := n0_; have HB := n1_; clear n0_ n1_; clear hb ho5))
 go_loopg [11] k (fun kq v11 w' => ∃ (x3_1 : List (List Int)) (x11_1 : Int), v11 = .int .i64 x11_1 ∧ Aside0 (impl_below.l0 kq x3_1 l0 (l0.length : Int) x11_1 = some r) ∧ Aside0 (kq ≤ k) ∧ Aside0 (Kd.S (Kd.slice 2 (Kd.int .i64)) 59 w' w.heap.size (fun _ => True) v257 x3_1) ∧ Aside0 (Below w.heap.size w w'))
 case atStart => exact ⟨(y256), (0), aR, H', ⟨Nat.le_refl _⟩, ⟨by (with_reducible repeat (first | apply Kd.S_alloc | apply Kd.S_drewN | apply Kd.S_drew)); exact HO258.out⟩, ⟨aB⟩⟩
 case round =>
  clear H'
  try clear c1
  try clear c2
  try clear c2b0
  try clear c2b1
  try clear p2
  try clear c3
  try clear c3b0
  try clear c3b1
  obtain ⟨x3_1, x11_1, rfl, HA, HK1, HO_3, HB⟩ := hrel
  cases gk with
  | zero => exact absurd HA.out (by simp [impl_below.l0])
  | succ k1 =>
   have H := HA.out
   clear HA
   simp only [impl_below.l0] at H
   by_cases c6 : x11_1 < (l0.length : Int)
   rotate_left
   ·rw [if_neg c6] at H
    have c6b0 : decide (x11_1 < (l0.length : Int)) = false := decide_eq_false c6
    clear c6
    obtain rfl := Option.some.inj H
    go_wp2
    go_ret
    exact ⟨_, by first | rfl | (simp [*] <;> rfl), by (with_reducible repeat (first | apply Kd.S_alloc | apply Kd.S_drewN | apply Kd.S_drew)); exact HO_3.out, aB⟩
   rw [if_pos c6] at H
   have c6b0 : decide (x11_1 < (l0.length : Int)) = true := decide_eq_true c6
   clear c6
   by_cases c7 : 0 ≤ x11_1
   rotate_left
   ·rw [if_neg c7] at H
    exact absurd H (by simp)
   rw [if_pos c7] at H
   have c7b0 : decide (0 ≤ x11_1) = true := decide_eq_true c7
   clear c7
   by_cases c8 : x11_1 < (l0.length : Int)
   rotate_left
   ·rw [if_neg c8] at H
    exact absurd H (by simp)
   rw [if_pos c8] at H
   have c8b0 : decide (x11_1 < (l0.length : Int)) = true := decide_eq_true c8
   clear c8
   by_cases c9 : ((rd_T39 l0 x11_1).f0) ≥ 0
   rotate_left
   ·rw [if_neg c9] at H
    have c9b0 : decide (0 ≤ ((rd_T39 l0 x11_1).f0)) = false := decide_eq_false c9
    clear c9
    have H' := Aside0.mk H
    clear H
    have p259 : 0 ≤ (x11_1 : Int) := aD
    have q259 : x11_1 < (l0.length : Int) := aD
    obtain ⟨ad259, A259_3, c259_3, e259, hx259_0, hx259_1, hx259_2, hx259_3, hl259_3, hi259_3⟩ := at_T39 HR0.out x11_1 p259 q259
    cases e259
    replace hx259_0 := (HB.out.cell (World.block_lt_of_cell? w _ hx259_0)).trans hx259_0
    replace hx259_1 := (HB.out.cell (World.block_lt_of_cell? w _ hx259_1)).trans hx259_1
    replace hx259_2 := (HB.out.cell (World.block_lt_of_cell? w _ hx259_2)).trans hx259_2
    replace hx259_3 := (HB.out.cell (World.block_lt_of_cell? w _ hx259_3)).trans hx259_3
    have HR259_3 := Aside0.mk hi259_3
    have HC259_3 := Aside0.mk hl259_3
    clear hi259_3 hl259_3
    replace p259 := eq_true p259
    replace q259 := eq_true q259
    go_wp2_with (first | ((with_reducible refine gate_dst (N := 5) rfl ?_); refine box_event ?hg (N := 5) ?hd (cs := #[.int .i64 0, .string (⟨#[]⟩ : ByteArray), .string (⟨#[]⟩ : ByteArray), .slice none 0 0]) (t := 39) ?hr ?_; (case hd => rfl); (case hg => rfl); (case hr => first | (go_simp; done) | (go_simp; rfl)); intro gb260 hg w25 hbox hb; have n0_ := Aside0.mk (Kd.S_below (by (with_reducible repeat (first | apply Kd.S_alloc | apply Kd.S_drewN | apply Kd.S_drew)); exact HO_3.out) hb); have n1_ := Aside0.mk (below_step aB hb); have n2_ := Aside0.mk (hbox); have n3_ := Aside0.mk ((by rw [hg]; exact (below_size aB) : w.heap.size ≤ gb260)); have n4_ := Aside0.mk ((by rw [hg]; exact (below_size aB) : w.heap.size ≤ gb260)); clear HO_3; clear HB; have HO_3 := n0_; have HB := n1_; have BK260 := n2_; have GW260 := n3_; have GE260 := n4_; clear n0_ n1_ n2_ n3_ n4_; clear hb hbox hg; have hcz26_0 : w25.cell? ⟨gb260, 0, none⟩ = some (.int .i64 0) := (blk_cell BK260.out 0).trans rfl; have hcz26_1 : w25.cell? ⟨gb260, 1, none⟩ = some (.string (⟨#[]⟩ : ByteArray)) := (blk_cell BK260.out 1).trans rfl; have hcz26_2 : w25.cell? ⟨gb260, 2, none⟩ = some (.string (⟨#[]⟩ : ByteArray)) := (blk_cell BK260.out 2).trans rfl; have hcz26_3 : w25.cell? ⟨gb260, 3, none⟩ = some (.slice none 0 0) := (blk_cell BK260.out 3).trans rfl; have hfz26_0 := blk_frozen BK260.out 0; have hfz26_1 := blk_frozen BK260.out 1; have hfz26_2 := blk_frozen BK260.out 2; have hfz26_3 := blk_frozen BK260.out 3) | ((with_reducible refine gate_store (t := 39) (p := 5) rfl ?_); refine store_event (t := 39) (p := 5) (v := ?vo_w27) (w1 := ((((w25.setCell ⟨gb260, 0, none⟩ (.int .i64 ((rd_T39 l0 x11_1).f0))).setCell ⟨gb260, 1, none⟩ (.string ((rd_T39 l0 x11_1).f1))).setCell ⟨gb260, 2, none⟩ (.string ((rd_T39 l0 x11_1).f2))).setCell ⟨gb260, 3, none⟩ (.slice A259_3 ((rd_T39 l0 x11_1).f3).length c259_3))) ?hg ?ho ?hn ?hr ?_; (case ho => rfl); (case hg => rfl); (case hn => rfl); (case hr => first | (go_simp; done) | (go_simp; rfl)); intro w27 hw; have n0_ : Aside0 (Kd.S (Kd.slice 2 (Kd.int .i64)) 59 w27 w.heap.size (fun _ => True) v257 x3_1) := ⟨(by rw [hw]; exact (by (with_reducible repeat (first | apply Kd.S_alloc | apply Kd.S_drewN | apply Kd.S_drew)); exact Kd.S_mono (Kd.S_far (p := ⟨gb260, 3, none⟩) (Kd.S_far (p := ⟨gb260, 2, none⟩) (Kd.S_far (p := ⟨gb260, 1, none⟩) (Kd.S_far (p := ⟨gb260, 0, none⟩) (Kd.S_types HO_3.out BK260.out (by decide)) (fun _ hk => hk.2) (.int .i64 ((rd_T39 l0 x11_1).f0))) (fun _ hk => hk.2) (.string ((rd_T39 l0 x11_1).f1))) (fun _ hk => hk.2) (.string ((rd_T39 l0 x11_1).f2))) (fun _ hk => hk.2) (.slice A259_3 ((rd_T39 l0 x11_1).f3).length c259_3)) (fun _ hk => trivial)))⟩; have n1_ : Aside0 (w27.heap[gb260]? = some (.cells #[.int .i64 ((rd_T39 l0 x11_1).f0), .string ((rd_T39 l0 x11_1).f1), .string ((rd_T39 l0 x11_1).f2), .slice A259_3 ((rd_T39 l0 x11_1).f3).length c259_3] 39 (0, 0))) := ⟨(by rw [hw]; exact (by (with_reducible repeat (first | apply d1 | apply d2 | apply d3)); refine blk_put (cs := #[.int .i64 ((rd_T39 l0 x11_1).f0), .string ((rd_T39 l0 x11_1).f1), .string ((rd_T39 l0 x11_1).f2), .slice none 0 0]) ?_ 3 _ rfl; (with_reducible repeat (first | apply d1 | apply d2 | apply d3)); refine blk_put (cs := #[.int .i64 ((rd_T39 l0 x11_1).f0), .string ((rd_T39 l0 x11_1).f1), .string (⟨#[]⟩ : ByteArray), .slice none 0 0]) ?_ 2 _ rfl; (with_reducible repeat (first | apply d1 | apply d2 | apply d3)); refine blk_put (cs := #[.int .i64 ((rd_T39 l0 x11_1).f0), .string (⟨#[]⟩ : ByteArray), .string (⟨#[]⟩ : ByteArray), .slice none 0 0]) ?_ 1 _ rfl; (with_reducible repeat (first | apply d1 | apply d2 | apply d3)); refine blk_put (cs := #[.int .i64 0, .string (⟨#[]⟩ : ByteArray), .string (⟨#[]⟩ : ByteArray), .slice none 0 0]) ?_ 0 _ rfl; (with_reducible repeat (first | apply d1 | apply d2 | apply d3)); exact BK260.out))⟩; have n2_ : Aside0 (Below w.heap.size w w27) := ⟨(by rw [hw]; exact aE)⟩; clear hw; clear HO_3; clear BK260; clear HB; have HO_3 := n0_; have BK260 := n1_; have HB := n2_; clear n0_ n1_ n2_; have hcz28_0 : w27.cell? ⟨gb260, 0, none⟩ = some (.int .i64 ((rd_T39 l0 x11_1).f0)) := (blk_cell BK260.out 0).trans rfl; have hcz28_1 : w27.cell? ⟨gb260, 1, none⟩ = some (.string ((rd_T39 l0 x11_1).f1)) := (blk_cell BK260.out 1).trans rfl; have hcz28_2 : w27.cell? ⟨gb260, 2, none⟩ = some (.string ((rd_T39 l0 x11_1).f2)) := (blk_cell BK260.out 2).trans rfl; have hcz28_3 : w27.cell? ⟨gb260, 3, none⟩ = some (.slice A259_3 ((rd_T39 l0 x11_1).f3).length c259_3) := (blk_cell BK260.out 3).trans rfl; have hfz28_0 := blk_frozen BK260.out 0; have hfz28_1 := blk_frozen BK260.out 1; have hfz28_2 := blk_frozen BK260.out 2; have hfz28_3 := blk_frozen BK260.out 3))
    go_roundg k1
    case measure => have := HK1.out; omega
    case rel => exact ⟨(x3_1), (wrap64 (x11_1 + 1)), aR, H', ⟨by have := HK1.out; omega⟩, ⟨by (with_reducible repeat (first | apply Kd.S_alloc | apply Kd.S_drewN | apply Kd.S_drew)); exact HO_3.out⟩, ⟨aE⟩⟩
   rw [if_pos c9] at H
   have c9b0 : decide (0 ≤ ((rd_T39 l0 x11_1).f0)) = true := decide_eq_true c9
   clear c9
   by_cases c10 : 0 ≤ ((rd_T39 l0 x11_1).f0)
   rotate_left
   ·rw [if_neg c10] at H
    exact absurd H (by simp)
   rw [if_pos c10] at H
   have c10b0 : decide (0 ≤ ((rd_T39 l0 x11_1).f0)) = true := decide_eq_true c10
   clear c10
   by_cases c11 : ((rd_T39 l0 x11_1).f0) < (x3_1.length : Int)
   rotate_left
   ·rw [if_neg c11] at H
    exact absurd H (by simp)
   rw [if_pos c11] at H
   have c11b0 : decide (((rd_T39 l0 x11_1).f0) < (x3_1.length : Int)) = true := decide_eq_true c11
   clear c11
   by_cases c12 : (rd_L8 x3_1 ((rd_T39 l0 x11_1).f0)).length < 17592186044416
   rotate_left
   ·rw [if_neg c12] at H
    exact absurd H (by simp)
   rw [if_pos c12] at H
   have LMc12 := Aside0.mk c12
   clear c12
   obtain ⟨y262, hy262⟩ : ∃ y_ : List Int, y_ = ((rd_L8 x3_1 ((rd_T39 l0 x11_1).f0)) ++ [x11_1]) := ⟨_, rfl⟩
   replace H : (impl_below.l0 k1 (x3_1.set (((rd_T39 l0 x11_1).f0) : Int).toNat y262) l0 (l0.length : Int) (wrap64 (x11_1 + 1))) = some r := by first | (rw [hy262]; with_reducible exact H) | (have H2_ := (Option.bind_some _ _).symm.trans H; rw [hy262]; with_reducible exact H2_) | (have H2_ := (Option.bind_some _ _).symm.trans H; with_reducible exact H2_) | with_reducible exact H | (rw [hy262]; exact H) | exact H
   have Ny262 := Aside0.mk hy262
   clear hy262
   obtain ⟨y265, hy265⟩ : ∃ y_ : List (List Int), y_ = (x3_1.set (((rd_T39 l0 x11_1).f0) : Int).toNat y262) := ⟨_, rfl⟩
   replace H : (impl_below.l0 k1 y265 l0 (l0.length : Int) (wrap64 (x11_1 + 1))) = some r := by first | (rw [hy265]; with_reducible exact H) | (have H2_ := (Option.bind_some _ _).symm.trans H; rw [hy265]; with_reducible exact H2_) | (have H2_ := (Option.bind_some _ _).symm.trans H; with_reducible exact H2_) | with_reducible exact H | (rw [hy265]; exact H) | exact H
   have Ny265 := Aside0.mk hy265
   clear hy265
   have H' := Aside0.mk H
   clear H
   have p259 : 0 ≤ (x11_1 : Int) := aD
   have q259 : x11_1 < (l0.length : Int) := aD
   obtain ⟨ad259, A259_3, c259_3, e259, hx259_0, hx259_1, hx259_2, hx259_3, hl259_3, hi259_3⟩ := at_T39 HR0.out x11_1 p259 q259
   cases e259
   replace hx259_0 := (HB.out.cell (World.block_lt_of_cell? w _ hx259_0)).trans hx259_0
   replace hx259_1 := (HB.out.cell (World.block_lt_of_cell? w _ hx259_1)).trans hx259_1
   replace hx259_2 := (HB.out.cell (World.block_lt_of_cell? w _ hx259_2)).trans hx259_2
   replace hx259_3 := (HB.out.cell (World.block_lt_of_cell? w _ hx259_3)).trans hx259_3
   have HR259_3 := Aside0.mk hi259_3
   have HC259_3 := Aside0.mk hl259_3
   clear hi259_3 hl259_3
   replace p259 := eq_true p259
   replace q259 := eq_true q259
   try go_wp2_with (first | ((with_reducible refine gate_dst (N := 5) rfl ?_); refine box_event ?hg (N := 5) ?hd (cs := #[.int .i64 0, .string (⟨#[]⟩ : ByteArray), .string (⟨#[]⟩ : ByteArray), .slice none 0 0]) (t := 39) ?hr ?_; (case hd => rfl); (case hg => rfl); (case hr => first | (go_simp; done) | (go_simp; rfl)); intro gb260 hg w14 hbox hb; have n0_ := Aside0.mk (Kd.S_below (by (with_reducible repeat (first | apply Kd.S_alloc | apply Kd.S_drewN | apply Kd.S_drew)); exact HO_3.out) hb); have n1_ := Aside0.mk (below_step aB hb); have n2_ := Aside0.mk (hbox); have n3_ := Aside0.mk ((by rw [hg]; exact (below_size aB) : w.heap.size ≤ gb260)); have n4_ := Aside0.mk ((by rw [hg]; exact (below_size aB) : w.heap.size ≤ gb260)); clear HO_3; clear HB; have HO_3 := n0_; have HB := n1_; have BK260 := n2_; have GW260 := n3_; have GE260 := n4_; clear n0_ n1_ n2_ n3_ n4_; clear hb hbox hg; have hcz15_0 : w14.cell? ⟨gb260, 0, none⟩ = some (.int .i64 0) := (blk_cell BK260.out 0).trans rfl; have hcz15_1 : w14.cell? ⟨gb260, 1, none⟩ = some (.string (⟨#[]⟩ : ByteArray)) := (blk_cell BK260.out 1).trans rfl; have hcz15_2 : w14.cell? ⟨gb260, 2, none⟩ = some (.string (⟨#[]⟩ : ByteArray)) := (blk_cell BK260.out 2).trans rfl; have hcz15_3 : w14.cell? ⟨gb260, 3, none⟩ = some (.slice none 0 0) := (blk_cell BK260.out 3).trans rfl; have hfz15_0 := blk_frozen BK260.out 0; have hfz15_1 := blk_frozen BK260.out 1; have hfz15_2 := blk_frozen BK260.out 2; have hfz15_3 := blk_frozen BK260.out 3) | ((with_reducible refine gate_store (t := 39) (p := 5) rfl ?_); refine store_event (t := 39) (p := 5) (v := ?vo_w16) (w1 := ((((w14.setCell ⟨gb260, 0, none⟩ (.int .i64 ((rd_T39 l0 x11_1).f0))).setCell ⟨gb260, 1, none⟩ (.string ((rd_T39 l0 x11_1).f1))).setCell ⟨gb260, 2, none⟩ (.string ((rd_T39 l0 x11_1).f2))).setCell ⟨gb260, 3, none⟩ (.slice A259_3 ((rd_T39 l0 x11_1).f3).length c259_3))) ?hg ?ho ?hn ?hr ?_; (case ho => rfl); (case hg => rfl); (case hn => rfl); (case hr => first | (go_simp; done) | (go_simp; rfl)); intro w16 hw; have n0_ : Aside0 (Kd.S (Kd.slice 2 (Kd.int .i64)) 59 w16 w.heap.size (fun _ => True) v257 x3_1) := ⟨(by rw [hw]; exact (by (with_reducible repeat (first | apply Kd.S_alloc | apply Kd.S_drewN | apply Kd.S_drew)); exact Kd.S_mono (Kd.S_far (p := ⟨gb260, 3, none⟩) (Kd.S_far (p := ⟨gb260, 2, none⟩) (Kd.S_far (p := ⟨gb260, 1, none⟩) (Kd.S_far (p := ⟨gb260, 0, none⟩) (Kd.S_types HO_3.out BK260.out (by decide)) (fun _ hk => hk.2) (.int .i64 ((rd_T39 l0 x11_1).f0))) (fun _ hk => hk.2) (.string ((rd_T39 l0 x11_1).f1))) (fun _ hk => hk.2) (.string ((rd_T39 l0 x11_1).f2))) (fun _ hk => hk.2) (.slice A259_3 ((rd_T39 l0 x11_1).f3).length c259_3)) (fun _ hk => trivial)))⟩; have n1_ : Aside0 (w16.heap[gb260]? = some (.cells #[.int .i64 ((rd_T39 l0 x11_1).f0), .string ((rd_T39 l0 x11_1).f1), .string ((rd_T39 l0 x11_1).f2), .slice A259_3 ((rd_T39 l0 x11_1).f3).length c259_3] 39 (0, 0))) := ⟨(by rw [hw]; exact (by (with_reducible repeat (first | apply d1 | apply d2 | apply d3)); refine blk_put (cs := #[.int .i64 ((rd_T39 l0 x11_1).f0), .string ((rd_T39 l0 x11_1).f1), .string ((rd_T39 l0 x11_1).f2), .slice none 0 0]) ?_ 3 _ rfl; (with_reducible repeat (first | apply d1 | apply d2 | apply d3)); refine blk_put (cs := #[.int .i64 ((rd_T39 l0 x11_1).f0), .string ((rd_T39 l0 x11_1).f1), .string (⟨#[]⟩ : ByteArray), .slice none 0 0]) ?_ 2 _ rfl; (with_reducible repeat (first | apply d1 | apply d2 | apply d3)); refine blk_put (cs := #[.int .i64 ((rd_T39 l0 x11_1).f0), .string (⟨#[]⟩ : ByteArray), .string (⟨#[]⟩ : ByteArray), .slice none 0 0]) ?_ 1 _ rfl; (with_reducible repeat (first | apply d1 | apply d2 | apply d3)); refine blk_put (cs := #[.int .i64 0, .string (⟨#[]⟩ : ByteArray), .string (⟨#[]⟩ : ByteArray), .slice none 0 0]) ?_ 0 _ rfl; (with_reducible repeat (first | apply d1 | apply d2 | apply d3)); exact BK260.out))⟩; have n2_ : Aside0 (Below w.heap.size w w16) := ⟨(by rw [hw]; exact aE)⟩; clear hw; clear HO_3; clear BK260; clear HB; have HO_3 := n0_; have BK260 := n1_; have HB := n2_; clear n0_ n1_ n2_; have hcz17_0 : w16.cell? ⟨gb260, 0, none⟩ = some (.int .i64 ((rd_T39 l0 x11_1).f0)) := (blk_cell BK260.out 0).trans rfl; have hcz17_1 : w16.cell? ⟨gb260, 1, none⟩ = some (.string ((rd_T39 l0 x11_1).f1)) := (blk_cell BK260.out 1).trans rfl; have hcz17_2 : w16.cell? ⟨gb260, 2, none⟩ = some (.string ((rd_T39 l0 x11_1).f2)) := (blk_cell BK260.out 2).trans rfl; have hcz17_3 : w16.cell? ⟨gb260, 3, none⟩ = some (.slice A259_3 ((rd_T39 l0 x11_1).f3).length c259_3) := (blk_cell BK260.out 3).trans rfl; have hfz17_0 := blk_frozen BK260.out 0; have hfz17_1 := blk_frozen BK260.out 1; have hfz17_2 := blk_frozen BK260.out 2; have hfz17_3 := blk_frozen BK260.out 3))
   have n0_ := Aside0.mk (Kd.S_drew HO_3.out)
   have n1_ := Aside0.mk (blk_drew BK260.out)
   have n2_ := Aside0.mk (below_drew1 HB.out)
   clear HO_3
   clear BK260
   clear HB
   have HO_3 := n0_
   have BK260 := n1_
   have HB := n2_
   clear n0_ n1_ n2_
   obtain ⟨Ao19, co19, eo19⟩ := Kd.S_slice HO_3.out
   (first | subst eo19 | (injection eo19 with f1_ f2_ f3_; have f4_ := f1_.symm; have f5_ := f3_.symm; clear f1_ f2_ f3_; subst f4_; subst f5_))
   have p261 : 0 ≤ (((rd_T39 l0 x11_1).f0) : Int) := aD
   have q261 : ((rd_T39 l0 x11_1).f0) < (x3_1.length : Int) := aD
   obtain ⟨ad261, A261_0, c261_0, e261, hx261_0, hl261_0, hi261_0⟩ := at_L8 (Kd.S_reads' HO_3.out).2.2 ((rd_T39 l0 x11_1).f0) p261 q261
   cases e261
   obtain ⟨ce261, hce261, hMe261, hcc261⟩ := Kd.S_get HO_3.out [] ((rd_T39 l0 x11_1).f0) p261 (by first | exact q261 | exact aD | (have e_ := (Kd.S_reads' HO_3.out).1; omega))
   obtain ⟨ve261_0, rfl, ge261_0⟩ := hMe261
   have hv261_0 := hcc261 0 _ rfl
   rw [Nat.add_zero, show ((Kd.slice 2 (Kd.int .i64))).sz = 1 from rfl, Nat.mul_one] at hv261_0
   replace hv261_0 := Option.some.inj (hv261_0.symm.trans hx261_0)
   rw [hv261_0] at ge261_0
   have HL261_0 := Aside0.mk (show Kd.R (Kd.int .i64) 2 _ _ _ _ (rd_L8 x3_1 ((rd_T39 l0 x11_1).f0)) from ge261_0)
   clear hv261_0 ge261_0
   have HX261_0 := Aside0.mk hx261_0
   clear hcc261 hce261
   have HR261_0 := Aside0.mk hi261_0
   have HC261_0 := Aside0.mk hl261_0
   clear hi261_0 hl261_0
   replace p261 := eq_true p261
   replace q261 := eq_true q261
   obtain ⟨go20, co20, eo20, gb20, gl20, cl20, HG20⟩ := Kd.S_form HO_3.out (by have h_ : (((rd_T39 l0 x11_1).f0) : Int) < ((x3_1.length : Int) : Int) := aD; have h2_ : 0 ≤ (((rd_T39 l0 x11_1).f0) : Int) := (aD); omega)
   (first | cases eo20 | (injection eo20 with ea_ en_ ec_; (first | subst ea_ | (injection ea_ with ea_; subst ea_)); subst ec_; clear en_))
   have GB20 := Aside0.mk gb20
   have GG20 := Aside0.mk HG20
   clear gb20 gl20 HG20
   (first | simp only [add_plain] at hx261_0 | skip)
   obtain ⟨oki20, ce20, hcl20, hM20, hcc20, _, _, hH20⟩ := Kd.S_elem HO_3.out [] (((rd_T39 l0 x11_1).f0) : Int) (aD) (by have h_ : (((rd_T39 l0 x11_1).f0) : Int) < ((x3_1.length : Int) : Int) := aD; first | exact h_ | (have e_ := (Kd.S_reads' HO_3.out).1; omega) | simpa using h_)
   obtain ⟨ve20_0, rfl, ge20_0⟩ := hM20
   have hv20 := hcc20 0 _ rfl
   have hX20 := HX261_0.out
   (try simp only [add_plain] at hX20)
   (try simp only [Nat.add_zero] at hv20)
   (try rw [show ((Kd.slice 2 (Kd.int .i64))).sz = 1 from rfl, Nat.mul_one] at hv20)
   replace hv20 := Option.some.inj (hv20.symm.trans hX20)
   subst hv20
   clear hX20 hcc20 hcl20
   have UU20 := Aside0.mk (show Kd.R (Kd.int .i64) 2 _ w.heap.size oki20 (.slice A261_0 (rd_L8 x3_1 ((rd_T39 l0 x11_1).f0)).length c261_0) (rd_L8 x3_1 ((rd_T39 l0 x11_1).f0)) from ge20_0)
   have HH20 := Aside0.mk hH20
   have HN20 := Aside0.mk (Kd.S_reads' HO_3.out).1
   clear hH20 ge20_0
   refine start_ (n := 13) (S := fun w' => w'.cell? ⟨gb260, 0, none⟩ = some (.int .i64 ((rd_T39 l0 x11_1).f0)) ∧ w'.cell? ⟨gb260, 1, none⟩ = some (.string ((rd_T39 l0 x11_1).f1)) ∧ w'.cell? ⟨gb260, 2, none⟩ = some (.string ((rd_T39 l0 x11_1).f2)) ∧ w'.cell? ⟨gb260, 3, none⟩ = some (.slice A259_3 ((rd_T39 l0 x11_1).f3).length c259_3) ∧ w'.cell? ⟨go20, (((rd_T39 l0 x11_1).f0)).toNat, none⟩ = some (.slice A261_0 (rd_L8 x3_1 ((rd_T39 l0 x11_1).f0)).length c261_0)) (ds := [12]) #[false, false, false, false, false, false, false, false, false, false, false, false, false] (by kernel_rfl) rfl rfl ⟨(blk_cell BK260.out 0).trans rfl, (blk_cell BK260.out 1).trans rfl, (blk_cell BK260.out 2).trans rfl, (blk_cell BK260.out 3).trans rfl, hx261_0⟩ (fun hHeld => ?_); refine with_tabW impl_below.tab6 impl_below.bits6 (fun HT_ HW_ => ?_)
   generalize w16.drew = w18 at HO_3 BK260 HB GG20 HH20 HL261_0 HR261_0 HX261_0 UU20 hx261_0 hHeld ⊢
   refine pure_ (i := 0) (N := some 19) (v := ?_) (a' := ?_) #[true, false, false, false, false, false, false, false, false, false, false, false, false] rfl rfl (any_of HT_.out (by kernel_rfl)) (fun _ _ _ h => h) (Or.inl ⟨by rfl, ?_⟩) ?_ ?_
   rotate_left
   ·intro w'
    go_simp
    with_reducible rfl
   rotate_left
   ·simp only [Act.put, List.setIfInBounds_toArray, List.set_cons_zero, List.set_cons_succ, i64_w, i32_w]
    rfl
   refine pure_ (i := 1) (N := some 20) (v := ?_) (a' := ?_) #[true, true, false, false, false, false, false, false, false, false, false, false, false] rfl rfl (any_of HT_.out (by kernel_rfl)) (fun _ _ _ h => h) (Or.inl ⟨by rfl, ?_⟩) ?_ ?_
   rotate_left
   ·intro w'
    go_simp
    with_reducible rfl
   rotate_left
   ·simp only [Act.put, List.setIfInBounds_toArray, List.set_cons_zero, List.set_cons_succ, i64_w, i32_w]
    rfl
   refine pure_ (i := 3) (N := some 22) (v := ?_) (a' := ?_) #[true, true, false, true, false, false, false, false, false, false, false, false, false] rfl rfl (any_of HT_.out (by kernel_rfl)) (fun _ _ _ h => h) (Or.inl ⟨by rfl, ?_⟩) ?_ ?_
   rotate_left
   ·intro w'
    go_simp
    with_reducible rfl
   rotate_left
   ·simp only [Act.put, List.setIfInBounds_toArray, List.set_cons_zero, List.set_cons_succ, i64_w, i32_w]
    rfl
   refine pure_ (i := 4) (N := some 23) (v := ?_) (a' := ?_) #[true, true, false, true, true, false, false, false, false, false, false, false, false] rfl rfl (any_of HT_.out (by kernel_rfl)) (fun _ _ _ h => h) (Or.inl ⟨by rfl, ?_⟩) ?_ ?_
   rotate_left
   ·intro w'
    go_simp
    with_reducible rfl
   rotate_left
   ·simp only [Act.put, List.setIfInBounds_toArray, List.set_cons_zero, List.set_cons_succ, i64_w, i32_w]
    rfl
   refine pure_ (i := 8) (N := some 27) (v := ?_) (a' := ?_) #[true, true, false, true, true, false, false, false, true, false, false, false, false] rfl rfl (any_of HT_.out (by kernel_rfl)) (fun _ _ _ h => h) (Or.inl ⟨by rfl, ?_⟩) ?_ ?_
   rotate_left
   ·intro w'
    go_simp
    with_reducible rfl
   rotate_left
   ·simp only [Act.put, List.setIfInBounds_toArray, List.set_cons_zero, List.set_cons_succ, i64_w, i32_w]
    rfl
   refine take_ (i := 2) (N := some 21) (v := ?_) (a' := ?_) #[true, true, true, true, true, false, false, false, true, false, false, false, false] rfl rfl (take_ofW HT_.out HW_.out (by kernel_rfl)) (fun _ _ _ h => h) (Or.inl ⟨by rfl, ?_⟩) hHeld ?_ ?_
   rotate_left
   ·rintro w' ⟨s0, s1, s2, s3, s4⟩
    go_simp
    with_reducible rfl
   rotate_left
   ·simp only [Act.put, List.setIfInBounds_toArray, List.set_cons_zero, List.set_cons_succ, i64_w, i32_w]
    rfl
   refine take_ (i := 5) (N := some 24) (v := ?_) (a' := ?_) #[true, true, true, true, true, true, false, false, true, false, false, false, false] rfl rfl (take_ofW HT_.out HW_.out (by kernel_rfl)) (fun _ _ _ h => h) (Or.inl ⟨by rfl, ?_⟩) hHeld ?_ ?_
   rotate_left
   ·rintro w' ⟨s0, s1, s2, s3, s4⟩
    go_simp
    with_reducible rfl
   rotate_left
   ·simp only [Act.put, List.setIfInBounds_toArray, List.set_cons_zero, List.set_cons_succ, i64_w, i32_w]
    rfl
   refine pure_ (i := 6) (N := some 25) (v := ?_) (a' := ?_) #[true, true, true, true, true, true, true, false, true, false, false, false, false] rfl rfl (any_of HT_.out (by kernel_rfl)) (fun _ _ _ h => h) (Or.inl ⟨by rfl, ?_⟩) ?_ ?_
   rotate_left
   ·intro w'
    go_simp
    with_reducible rfl
   rotate_left
   ·simp only [Act.put, List.setIfInBounds_toArray, List.set_cons_zero, List.set_cons_succ, i64_w, i32_w]
    rfl
   refine take_ (i := 7) (N := some 26) (v := ?_) (a' := ?_) #[true, true, true, true, true, true, true, true, true, false, false, false, false] rfl rfl (take_ofW HT_.out HW_.out (by kernel_rfl)) (fun _ _ _ h => h) (Or.inl ⟨by rfl, ?_⟩) hHeld ?_ ?_
   rotate_left
   ·rintro w' ⟨s0, s1, s2, s3, s4⟩
    go_simp
    with_reducible rfl
   rotate_left
   ·simp only [Act.put, List.setIfInBounds_toArray, List.set_cons_zero, List.set_cons_succ, i64_w, i32_w]
    rfl
   refine one_ (i := 9) (N := some 28) #[true, true, true, true, true, true, true, true, true, true, false, false, false] rfl rfl (one_of HT_.out (by kernel_rfl)) (by decide) (fun K hK => ?_)
   refine value_ (w1 := ?_) (v := ?_) (by rfl) rfl ?_ ?_
   rotate_left 2
   ·go_simp
    constructor
    ·rfl
    ·rfl
   refine hK.out _ _ ⟨(blk_cell (blk_alloc BK260.out _) 0).trans rfl, (blk_cell (blk_alloc BK260.out _) 1).trans rfl, (blk_cell (blk_alloc BK260.out _) 2).trans rfl, (blk_cell (blk_alloc BK260.out _) 3).trans rfl, (World.cell?_alloc_lt _ _ _ (World.block_lt_of_cell? _ _ (hHeld.2.2.2.2))).trans (hHeld.2.2.2.2)⟩ (fun hHeld => ?_)
   clear hK K
   refine norm_ (a' := ?_) ?_ ?_
   rotate_left
   ·show Act.put _ (some 28) _ = _
    simp only [Act.put, List.setIfInBounds_toArray, List.set_cons_zero, List.set_cons_succ, i64_w, i32_w]
    rfl
   refine one_ (i := 10) (N := some 29) #[true, true, true, true, true, true, true, true, true, true, true, false, false] rfl rfl (one_of HT_.out (by kernel_rfl)) (by decide) (fun K hK => ?_)
   refine Kd.R_append_step (Kd.int .i64) (w0 := w) w.heap.size (by rfl) (.tmp 26) (.tmp 28) 59 2 (.int .i64 0) 8 rfl Tryz.underlying59 info2 rfl (by decide) (by omega) (.slice A261_0 (rd_L8 x3_1 ((rd_T39 l0 x11_1).f0)).length c261_0) (rd_L8 x3_1 ((rd_T39 l0 x11_1).f0)) x11_1 [.int .i64 x11_1] (fun k_ => oki20 k_ ∨ ((fun _ => True)) k_ ∧ w18.heap.size ≤ k_) (fun _ => False) rfl rfl ?aP (fun _ hk => hk.elim) ?aF ?aO ?aB ?aS ?aL ?_
   (case aP => exact rfl)
   (case aB => exact aE)
   (case aF => exact (fun k_ hk => .inr ⟨trivial, hk⟩))
   (case aO => exact (by (with_reducible repeat (first | apply Kd.R_alloc | apply Kd.R_drewN | apply Kd.R_drew)); exact Kd.R_mono UU20.out (fun _ hk => .inl hk)))
   (case aS => exact (below_size aE))
   (case aL => have := LMc12.out; omega)
   intro v263 w21 ho hb hg hat
   (first | have HS4_ := cell_grown hg (hHeld.2.2.2.2) (by first | (rw [add_block]; exact (fun e_ => ((HL261_0.out.1 _ e_.symm).2) rfl)) | (show some (Addr.add _ _).block ≠ _; rw [add_block]; exact (fun e_ => ((HL261_0.out.1 _ e_.symm).2) rfl)) | exact (fun e_ => ((HL261_0.out.1 _ e_.symm).2) rfl)) | have HS4_ := cell_grown hg (cell_unalloc (hHeld.2.2.2.2) (by first | (rw [add_block]; exact Kd.S_lt HO_3.out _ rfl) | (show (Addr.add _ _).block < _; rw [add_block]; exact Kd.S_lt HO_3.out _ rfl) | exact Kd.S_lt HO_3.out _ rfl)) (by first | (rw [add_block]; exact (fun e_ => ((HL261_0.out.1 _ e_.symm).2) rfl)) | (show some (Addr.add _ _).block ≠ _; rw [add_block]; exact (fun e_ => ((HL261_0.out.1 _ e_.symm).2) rfl)) | exact (fun e_ => ((HL261_0.out.1 _ e_.symm).2) rfl)))
   rw [← Ny262.out] at ho
   have n0_ := Aside0.mk (blk_grown (g := gb260) (o := .cells #[.int .i64 ((rd_T39 l0 x11_1).f0), .string ((rd_T39 l0 x11_1).f1), .string ((rd_T39 l0 x11_1).f2), .slice A259_3 ((rd_T39 l0 x11_1).f3).length c259_3] 39 (0, 0)) (aP BK260.out) hg (Kd.R_ne HL261_0.out BK260.out (by decide)))
   have n1_ := Aside0.mk (hb)
   have n2_ := Aside0.mk (Kd.H_grown (Kd.H_widen (by repeat (first | exact HH20.out | refine Kd.H_alloc ?_ _ | refine Kd.H_drewN ?_ _ | refine Kd.H_drew ?_))) hg (fun k_ e_ => .inl (UU20.out.1 k_ e_)))
   have n3_ := Aside0.mk (ho)
   clear BK260
   clear HB
   clear HH20
   clear HO_3
   clear UU20
   clear HL261_0
   have BK260 := n0_
   have HB := n1_
   have HH20 := n2_
   have HO264 := n3_
   clear n0_ n1_ n2_ n3_
   clear ho hb hg hat
   have p13 : 0 ≤ (((rd_T39 l0 x11_1).f0) : Int) := aD
   have q13 : (((rd_T39 l0 x11_1).f0) : Int) < ((x3_1.length : Int) : Int) := aD
   replace p13 := eq_true p13
   replace q13 := eq_true q13
   obtain ⟨Ao24, co24, eo24⟩ := Kd.R_slice HO264.out
   (first | subst eo24 | (injection eo24 with f1_ f2_ f3_; have f4_ := f1_.symm; have f5_ := f3_.symm; clear f1_ f2_ f3_; subst f4_; subst f5_))
   obtain ⟨_, _, hraw22, _, _, hcc22, _⟩ := Kd.H_raw HH20.out (aD) (by have h_ : (((rd_T39 l0 x11_1).f0) : Int) < ((x3_1.length : Int) : Int) := aD; first | exact h_ | (have e_ := (HN20.out); omega) | simpa using h_)
   obtain ⟨_, hfr22⟩ := Kd.H_at HH20.out (aD) (by have h_ : (((rd_T39 l0 x11_1).f0) : Int) < ((x3_1.length : Int) : Int) := aD; first | exact h_ | (have e_ := (HN20.out); omega) | simpa using h_)
   have hx22_0 := hcc22 0 _ rfl
   have hf22_0 := hfr22 0
   (try simp only [Nat.add_zero] at hx22_0 hf22_0)
   (try rw [show ((Kd.slice 2 (Kd.int .i64))).sz = 1 from rfl, Nat.mul_one] at hx22_0)
   (try rw [show ((Kd.slice 2 (Kd.int .i64))).sz = 1 from rfl, Nat.mul_one] at hf22_0)
   have HP22 := Kd.S_seg0 HH20.out (aD) (by have h_ : (((rd_T39 l0 x11_1).f0) : Int) < ((x3_1.length : Int) : Int) := aD; first | exact h_ | (have e_ := (HN20.out); omega) | simpa using h_) (seg := [.slice Ao24 y262.length co24]) (j := 0) (show 1 ≤ 1 from by decide) (x' := y262) (Kd.M_row HO264.out) (fun _ hk => hk)
   (try simp only [show ((Kd.slice 2 (Kd.int .i64))).sz = 1 from rfl, Nat.mul_one, Nat.add_zero] at HP22)
   clear hcc22 hfr22
   have HNB260_go20 := Aside0.mk (show gb260 ≠ go20 from by have h_ := Kd.R_ne hraw22 BK260.out (by decide); intro e_; exact h_ (by rw [e_]; rfl))
   have HS22 := HP22.1
   rw [← Ny265.out] at HS22
   have HQ22 := Aside0.mk HS22
   obtain ⟨_, hgg22⟩ := Kd.R_typed hraw22 go20 rfl
   have GG22_ := Aside0.mk hgg22
   clear HP22 HS22 hgg22
   refine hK.out _ _ ⟨(blk_cell BK260.out 0).trans rfl, (blk_cell BK260.out 1).trans rfl, (blk_cell BK260.out 2).trans rfl, (blk_cell BK260.out 3).trans rfl, HS4_⟩ (fun hHeld => ?_)
   clear hK K
   refine norm_ (a' := ?_) ?_ ?_
   rotate_left
   ·show Act.put _ (some 29) _ = _
    simp only [Act.put, List.setIfInBounds_toArray, List.set_cons_zero, List.set_cons_succ, i64_w, i32_w]
    rfl
   refine pure_ (i := 11) (N := some 30) (v := ?_) (a' := ?_) #[true, true, true, true, true, true, true, true, true, true, true, true, false] rfl rfl (any_of HT_.out (by kernel_rfl)) (fun _ _ _ h => h) (Or.inl ⟨by rfl, ?_⟩) ?_ ?_
   rotate_left
   ·intro w'
    go_simp
    with_reducible rfl
   rotate_left
   ·simp only [Act.put, List.setIfInBounds_toArray, List.set_cons_zero, List.set_cons_succ, i64_w, i32_w]
    rfl
   refine last_ (i := 12) (N := none) #[true, true, true, true, true, true, true, true, true, true, true, true, true] rfl rfl (one_of HT_.out (by kernel_rfl)) (by decide) (fun K hK => ?_)
   refine skip_ (w1 := ?_) (by rfl) rfl ?_ ?_
   rotate_left
   ·go_simp
    rfl
   refine hK.out _ _ ?_
   clear hK K
   refine done_ (done_of HT_.out (by kernel_rfl)) ?_
   try go_wp2
   go_roundg k1
   case measure => have := HK1.out; omega
   case rel => exact ⟨(y265), (wrap64 (x11_1 + 1)), aR, H', ⟨by have := HK1.out; omega⟩, ⟨by (with_reducible repeat (first | apply Kd.S_alloc | apply Kd.S_drewN | apply Kd.S_drew)); exact HQ22.out⟩, ⟨by repeat (first | (with_reducible first | exact HB.out | apply below_alloc | apply pw_below_drewN | apply below_drew1 | refine below_set ?_ GB20.out | refine below_set ?_ GE260.out) | exact HB.out)⟩⟩
def impl_Escape.sign (attr : Bool) (b : UInt8) : ByteArray :=
  if (b.toNat : Int) = 38 then ⟨#[38, 97, 109, 112, 59]⟩ else if (b.toNat : Int) = 60 then ⟨#[38, 108, 116, 59]⟩ else if (b.toNat : Int) = 62 then ⟨#[38, 103, 116, 59]⟩ else if (b.toNat : Int) = 13 then ⟨#[38, 35, 49, 51, 59]⟩
  else if attr = true ∧ (b.toNat : Int) = 34 then ⟨#[38, 113, 117, 111, 116, 59]⟩ else if attr = true ∧ (b.toNat : Int) = 9 then ⟨#[38, 35, 57, 59]⟩ else if attr = true ∧ (b.toNat : Int) = 10 then ⟨#[38, 35, 49, 48, 59]⟩ else ⟨#[b]⟩
def impl_Escape.out (attr : Bool) (s : ByteArray) : ByteArray := ⟨(s.data.toList.flatMap fun b => (impl_Escape.sign attr b).data.toList).toArray⟩
def impl_Escape.f (k : Nat) (a0 : ByteArray) (a1 : Bool) : Option (ByteArray × Bool) := if (a0.size : Int) > 2500 then some ((⟨#[]⟩ : ByteArray), false) else ((impl_isPlain.f k a0).bind fun p => (if p = true then (some (impl_Escape.out a1 a0, true)) else (some ((⟨#[]⟩ : ByteArray), false))))
def impl_Escape.strs8 : List ByteArray := [⟨#[38]⟩, ⟨#[38, 97, 109, 112, 59]⟩, ⟨#[60]⟩, ⟨#[38, 108, 116, 59]⟩, ⟨#[62]⟩, ⟨#[38, 103, 116, 59]⟩, ⟨#[13]⟩, ⟨#[38, 35, 49, 51, 59]⟩]
def impl_Escape.strs14 : List ByteArray := [⟨#[38]⟩, ⟨#[38, 97, 109, 112, 59]⟩, ⟨#[60]⟩, ⟨#[38, 108, 116, 59]⟩, ⟨#[62]⟩, ⟨#[38, 103, 116, 59]⟩, ⟨#[13]⟩, ⟨#[38, 35, 49, 51, 59]⟩, ⟨#[34]⟩, ⟨#[38, 113, 117, 111, 116, 59]⟩, ⟨#[9]⟩, ⟨#[38, 35, 57, 59]⟩, ⟨#[10]⟩, ⟨#[38, 35, 49, 48, 59]⟩]
theorem impl_Escape.tab8 (b : Nat) : Go.Proofs.YtbhklkpjjpkblaaGreatDoorW.ReplM.tabOf impl_Escape.strs8 4 4 b = if b = 38 then some ⟨#[38, 97, 109, 112, 59]⟩ else if b = 60 then some ⟨#[38, 108, 116, 59]⟩ else if b = 62 then some ⟨#[38, 103, 116, 59]⟩ else if b = 13 then some ⟨#[38, 35, 49, 51, 59]⟩ else none := rfl
theorem impl_Escape.tab14 (b : Nat) : Go.Proofs.YtbhklkpjjpkblaaGreatDoorW.ReplM.tabOf impl_Escape.strs14 7 7 b = if b = 38 then some ⟨#[38, 97, 109, 112, 59]⟩ else if b = 60 then some ⟨#[38, 108, 116, 59]⟩ else if b = 62 then some ⟨#[38, 103, 116, 59]⟩ else if b = 13 then some ⟨#[38, 35, 49, 51, 59]⟩ else if b = 34 then some ⟨#[38, 113, 117, 111, 116, 59]⟩ else if b = 9 then some ⟨#[38, 35, 57, 59]⟩ else if b = 10 then some ⟨#[38, 35, 49, 48, 59]⟩ else none := rfl
theorem impl_Escape.out_of (attr : Bool) (tab : Nat → Option ByteArray) (s : ByteArray) (h : ∀ b : UInt8, Go.Proofs.YtbhklkpjjpkblaaGreatDoorW.ReplM.outB (Go.Proofs.YtbhklkpjjpkblaaGreatDoorW.ReplM.tabB tab) b = (impl_Escape.sign attr b).data.toList) : Go.Proofs.YtbhklkpjjpkblaaGreatDoorW.ReplM.outS tab s = impl_Escape.out attr s := by
  unfold Go.Proofs.YtbhklkpjjpkblaaGreatDoorW.ReplM.outS Go.Proofs.YtbhklkpjjpkblaaGreatDoorW.ReplM.outT impl_Escape.out
  rw [funext h]
theorem impl_Escape.out8 (s : ByteArray) : Go.Proofs.YtbhklkpjjpkblaaGreatDoorW.ReplM.outS (Go.Proofs.YtbhklkpjjpkblaaGreatDoorW.ReplM.tabOf impl_Escape.strs8 4 4) s = impl_Escape.out false s := by
  refine impl_Escape.out_of false _ s fun b => ?_
  unfold Go.Proofs.YtbhklkpjjpkblaaGreatDoorW.ReplM.outB Go.Proofs.YtbhklkpjjpkblaaGreatDoorW.ReplM.tabB impl_Escape.sign
  rw [impl_Escape.tab8]
  by_cases c1 : b.toNat = 38
  · rw [if_pos c1, if_pos (by omega)]; rfl
  · rw [if_neg c1, if_neg (show ¬ (b.toNat : Int) = 38 by omega)]
    by_cases c2 : b.toNat = 60
    · rw [if_pos c2, if_pos (by omega)]; rfl
    · rw [if_neg c2, if_neg (show ¬ (b.toNat : Int) = 60 by omega)]
      by_cases c3 : b.toNat = 62
      · rw [if_pos c3, if_pos (by omega)]; rfl
      · rw [if_neg c3, if_neg (show ¬ (b.toNat : Int) = 62 by omega)]
        by_cases c4 : b.toNat = 13
        · rw [if_pos c4, if_pos (by omega)]; rfl
        · rw [if_neg c4, if_neg (show ¬ (b.toNat : Int) = 13 by omega), if_neg (by simp), if_neg (by simp), if_neg (by simp)]; rfl
theorem impl_Escape.out14 (s : ByteArray) : Go.Proofs.YtbhklkpjjpkblaaGreatDoorW.ReplM.outS (Go.Proofs.YtbhklkpjjpkblaaGreatDoorW.ReplM.tabOf impl_Escape.strs14 7 7) s = impl_Escape.out true s := by
  refine impl_Escape.out_of true _ s fun b => ?_
  unfold Go.Proofs.YtbhklkpjjpkblaaGreatDoorW.ReplM.outB Go.Proofs.YtbhklkpjjpkblaaGreatDoorW.ReplM.tabB impl_Escape.sign
  rw [impl_Escape.tab14]
  by_cases c1 : b.toNat = 38
  · rw [if_pos c1, if_pos (by omega)]; rfl
  · rw [if_neg c1, if_neg (show ¬ (b.toNat : Int) = 38 by omega)]
    by_cases c2 : b.toNat = 60
    · rw [if_pos c2, if_pos (by omega)]; rfl
    · rw [if_neg c2, if_neg (show ¬ (b.toNat : Int) = 60 by omega)]
      by_cases c3 : b.toNat = 62
      · rw [if_pos c3, if_pos (by omega)]; rfl
      · rw [if_neg c3, if_neg (show ¬ (b.toNat : Int) = 62 by omega)]
        by_cases c4 : b.toNat = 13
        · rw [if_pos c4, if_pos (by omega)]; rfl
        · rw [if_neg c4, if_neg (show ¬ (b.toNat : Int) = 13 by omega)]
          by_cases c5 : b.toNat = 34
          · rw [if_pos c5, if_pos ⟨rfl, by omega⟩]; rfl
          · rw [if_neg c5, if_neg (show ¬ (true = true ∧ (b.toNat : Int) = 34) from fun h => c5 (by have := h.2; omega))]
            by_cases c6 : b.toNat = 9
            · rw [if_pos c6, if_pos ⟨rfl, by omega⟩]; rfl
            · rw [if_neg c6, if_neg (show ¬ (true = true ∧ (b.toNat : Int) = 9) from fun h => c6 (by have := h.2; omega))]
              by_cases c7 : b.toNat = 10
              · rw [if_pos c7, if_pos ⟨rfl, by omega⟩]; rfl
              · rw [if_neg c7, if_neg (show ¬ (true = true ∧ (b.toNat : Int) = 10) from fun h => c7 (by have := h.2; omega))]; rfl
theorem impl_Escape.lit {W : World} {G : Nat} {t : TypeId} {cur : Array Value} (xs : List ByteArray) (hl : xs.length ≤ 1000) (hg : W.heap[G]? = some (.cells cur t (0, 0))) (hc : ∀ (j : Nat) (x : ByteArray), xs[j]? = some x → cur[j]? = some (Value.string x)) : Kd.string.C W (some ⟨G, 0, none⟩) xs.length xs := by
  refine ⟨rfl, by omega, fun _ => ⟨_, rfl, fun j p hj => ⟨[Value.string p], rfl, rfl, fun i v hi => ?_⟩⟩⟩
  obtain rfl : i = 0 := by
    have := (List.getElem?_eq_some_iff.1 hi).1
    simp at this
    exact this
  injection hi with hi
  subst hi
  rw [add_plain]
  unfold World.cell?
  dsimp only
  rw [hg]
  show cur[j * 1 + 0]? = _
  rw [Nat.mul_one]
  exact hc j p hj
theorem impl_Escape.third (w1 : World) (o1 o2 : Obj) (cur : Array Value) (t : TypeId) : (((w1.alloc o1).alloc o2).alloc (.cells cur t (0, 0))).drew.heap[w1.heap.size + 1 + 1]? = some (.cells cur t (0, 0)) := by
  have h := blk_new ((w1.alloc o1).alloc o2) (.cells cur t (0, 0))
  have e : ((w1.alloc o1).alloc o2).heap.size = w1.heap.size + 1 + 1 := by simp
  rw [e] at h
  exact h
theorem impl_Escape.chain {w w1 w2 w3 : World} {b : Nat} (h1 : Below w.heap.size w w1) (h2 : Below w1.heap.size w1 w2) (hb : w1.heap.size ≤ b) (h3 : Below b w2 w3) : Below w.heap.size w w3 :=
  (h1.trans (h2.mono h1.size)).trans (h3.mono (Nat.le_trans h1.size hb))
theorem impl_Escape.old8 : ∀ j : Nat, j < 4 → (rdOf ByteArray.empty impl_Escape.strs8 ((2 * j : Nat) : Int)).size = 1 := by decide
theorem impl_Escape.long8 : ∀ j : Nat, j < 4 → (rdOf ByteArray.empty impl_Escape.strs8 ((2 * j + 1 : Nat) : Int)).size ≤ 1000 := by decide
theorem impl_Escape.dist8 : ∀ i i', i < 4 → i' < 4 → Go.Proofs.YtbhklkpjjpkblaaGreatDoorW.ReplM.keyAt impl_Escape.strs8 i = Go.Proofs.YtbhklkpjjpkblaaGreatDoorW.ReplM.keyAt impl_Escape.strs8 i' → i = i' := by
  have h : ∀ i, i < 4 → ∀ i', i' < 4 → Go.Proofs.YtbhklkpjjpkblaaGreatDoorW.ReplM.keyAt impl_Escape.strs8 i = Go.Proofs.YtbhklkpjjpkblaaGreatDoorW.ReplM.keyAt impl_Escape.strs8 i' → i = i' := by decide
  exact fun i i' h1 h2 => h i h1 i' h2
theorem impl_Escape.old14 : ∀ j : Nat, j < 7 → (rdOf ByteArray.empty impl_Escape.strs14 ((2 * j : Nat) : Int)).size = 1 := by decide
theorem impl_Escape.long14 : ∀ j : Nat, j < 7 → (rdOf ByteArray.empty impl_Escape.strs14 ((2 * j + 1 : Nat) : Int)).size ≤ 1000 := by decide
theorem impl_Escape.dist14 : ∀ i i', i < 7 → i' < 7 → Go.Proofs.YtbhklkpjjpkblaaGreatDoorW.ReplM.keyAt impl_Escape.strs14 i = Go.Proofs.YtbhklkpjjpkblaaGreatDoorW.ReplM.keyAt impl_Escape.strs14 i' → i = i' := by
  have h : ∀ i, i < 7 → ∀ i', i' < 7 → Go.Proofs.YtbhklkpjjpkblaaGreatDoorW.ReplM.keyAt impl_Escape.strs14 i = Go.Proofs.YtbhklkpjjpkblaaGreatDoorW.ReplM.keyAt impl_Escape.strs14 i' → i = i' := by decide
  exact fun i i' h1 h2 => h i h1 i' h2
theorem impl_Escape.calls (k : Nat) (a0 : ByteArray) (a1 : Bool) (r1 : ByteArray) (r2 : Bool) (w : World) (hgl : GL w) (h : impl_Escape.f k a0 a1 = some (r1, r2)) :
    Calls Tryz.prog 29 #[.string a0, .bool a1] w fun e w' => e = .returned (.tuple #[.string r1, .bool r2]) ∧ Below w.heap.size w w' := by
  have HGL := Aside0.mk hgl
  clear hgl
  have HB := Aside0.mk (Below.refl w.heap.size w)
  have H : (if (a0.size : Int) > 2500 then some ((⟨#[]⟩ : ByteArray), false) else ((impl_isPlain.f k a0).bind fun p => (if p = true then (some (impl_Escape.out a1 a0, true)) else (some ((⟨#[]⟩ : ByteArray), false))))) = some (r1, r2) := h
  clear h
  by_cases hz : (a0.size : Int) > 2500
  · rw [if_pos hz] at H
    obtain ⟨rfl, rfl⟩ := Prod.mk.inj (Option.some.inj H)
    have c1 : decide ((2500 : Int) < (a0.size : Int)) = true := decide_eq_true hz
    clear hz H
    go_enter Tryz.func29, Tryz.ntmps29
    go_wp2
    go_ret2
    exact ⟨rfl, HB.out⟩
  rw [if_neg hz] at H
  obtain ⟨p, hp, H⟩ := Option.bind_eq_some_iff.1 H
  have c1 : decide ((2500 : Int) < (a0.size : Int)) = false := decide_eq_false hz
  have HS : Aside0 (a0.size ≤ 2500) := ⟨by omega⟩
  have HP := Aside0.mk hp
  clear hz hp
  cases p with
  | false =>
    obtain ⟨rfl, rfl⟩ := Prod.mk.inj (Option.some.inj H)
    clear H
    go_enter Tryz.func29, Tryz.ntmps29
    go_wp2_with (go_at_call 37; refine (impl_isPlain.calls k a0 false _ HGL.out HP.out).mono ?_; rintro e w1 ⟨rfl, hb1⟩; have HB1 := Aside0.mk hb1; clear hb1)
    go_ret2
    exact ⟨rfl, HB1.out⟩
  | true =>
    obtain ⟨rfl, rfl⟩ := Prod.mk.inj (Option.some.inj H)
    clear H
    cases a1 with
    | false =>
      go_enter Tryz.func29, Tryz.ntmps29
      go_wp2_with (first | (go_at_call 37; refine (impl_isPlain.calls k a0 true _ HGL.out HP.out).mono ?_; rintro e w1 ⟨rfl, hb1⟩; have HB1 := Aside0.mk hb1; clear hb1) | (go_at_call 39; (refine (Go.Proofs.YtbhklkpjjpkblaaGreatDoorW.RepM.newReplacer _ 8 4 impl_Escape.strs8 _ (impl_Escape.lit impl_Escape.strs8 (by decide) (blk_new w1 _) ?lit) rfl (by decide)).mono ?_); (case lit => intro j x hj; match j with | 0 => exact congrArg (Option.map Value.string) hj | 1 => exact congrArg (Option.map Value.string) hj | 2 => exact congrArg (Option.map Value.string) hj | 3 => exact congrArg (Option.map Value.string) hj | 4 => exact congrArg (Option.map Value.string) hj | 5 => exact congrArg (Option.map Value.string) hj | 6 => exact congrArg (Option.map Value.string) hj | 7 => exact congrArg (Option.map Value.string) hj | j + 8 => cases hj); rintro e w2 ⟨b, v, rfl, hb, hh, hr, hb2⟩; have HH := Aside0.mk hh; have HR := Aside0.mk hr; have HB2 := Aside0.mk hb2; have HBL := Aside0.mk hb; clear hh hr hb2 hb) | (go_at_call 40; refine (Go.Proofs.YtbhklkpjjpkblaaGreatDoorW.RepM.whole b _ 4 v impl_Escape.strs8 a0 w2 HH.out HR.out rfl (by decide) (by decide) impl_Escape.old8 ⟨0, by decide, by decide⟩ impl_Escape.long8 impl_Escape.dist8 (by have := HS.out; omega)).mono ?_; rintro e w3 ⟨rfl, hb3⟩; have HB3 := Aside0.mk hb3; clear hb3))
      go_ret2
      exact ⟨by rw [impl_Escape.out8]; rfl, impl_Escape.chain (HB1.out.alloc HB1.out.size _) HB2.out HBL.out HB3.out⟩
    | true =>
      go_enter Tryz.func29, Tryz.ntmps29
      go_wp2_with (first | (go_at_call 37; refine (impl_isPlain.calls k a0 true _ HGL.out HP.out).mono ?_; rintro e w1 ⟨rfl, hb1⟩; have HB1 := Aside0.mk hb1; clear hb1) | (go_at_call 39; (refine (Go.Proofs.YtbhklkpjjpkblaaGreatDoorW.RepM.newReplacer _ _ 7 impl_Escape.strs14 _ (impl_Escape.lit impl_Escape.strs14 (by decide) (impl_Escape.third w1 _ _ _ _) ?lit) rfl (by decide)).mono ?_); (case lit => intro j x hj; match j with | 0 => (rw [Array.getElem?_append_left (by decide)]; exact congrArg (Option.map Value.string) hj) | 1 => (rw [Array.getElem?_append_left (by decide)]; exact congrArg (Option.map Value.string) hj) | 2 => (rw [Array.getElem?_append_left (by decide)]; exact congrArg (Option.map Value.string) hj) | 3 => (rw [Array.getElem?_append_left (by decide)]; exact congrArg (Option.map Value.string) hj) | 4 => (rw [Array.getElem?_append_left (by decide)]; exact congrArg (Option.map Value.string) hj) | 5 => (rw [Array.getElem?_append_left (by decide)]; exact congrArg (Option.map Value.string) hj) | 6 => (rw [Array.getElem?_append_left (by decide)]; exact congrArg (Option.map Value.string) hj) | 7 => (rw [Array.getElem?_append_left (by decide)]; exact congrArg (Option.map Value.string) hj) | 8 => (rw [Array.getElem?_append_right (by decide), Array.getElem?_append_left (by decide)]; exact congrArg (Option.map Value.string) hj) | 9 => (rw [Array.getElem?_append_right (by decide), Array.getElem?_append_left (by decide)]; exact congrArg (Option.map Value.string) hj) | 10 => (rw [Array.getElem?_append_right (by decide), Array.getElem?_append_left (by decide)]; exact congrArg (Option.map Value.string) hj) | 11 => (rw [Array.getElem?_append_right (by decide), Array.getElem?_append_left (by decide)]; exact congrArg (Option.map Value.string) hj) | 12 => (rw [Array.getElem?_append_right (by decide), Array.getElem?_append_left (by decide)]; exact congrArg (Option.map Value.string) hj) | 13 => (rw [Array.getElem?_append_right (by decide), Array.getElem?_append_left (by decide)]; exact congrArg (Option.map Value.string) hj) | j + 14 => cases hj); rintro e w2 ⟨b, v, rfl, hb, hh, hr, hb2⟩; have HH := Aside0.mk hh; have HR := Aside0.mk hr; have HB2 := Aside0.mk hb2; have HBL := Aside0.mk hb; clear hh hr hb2 hb) | (go_at_call 40; refine (Go.Proofs.YtbhklkpjjpkblaaGreatDoorW.RepM.whole b _ 7 v impl_Escape.strs14 a0 w2 HH.out HR.out rfl (by decide) (by decide) impl_Escape.old14 ⟨0, by decide, by decide⟩ impl_Escape.long14 impl_Escape.dist14 (by have := HS.out; omega)).mono ?_; rintro e w3 ⟨rfl, hb3⟩; have HB3 := Aside0.mk hb3; clear hb3))
      go_ret2
      exact ⟨by rw [impl_Escape.out14]; rfl, impl_Escape.chain ((pw_below_drewN (((HB1.out.alloc HB1.out.size _).alloc (by simp; have := HB1.out.size; omega) _).alloc (by simp; have := HB1.out.size; omega) _) 1)) HB2.out HBL.out HB3.out⟩
end Go.Proofs.YtbhklkpjjpkblaaGreatDoor.PP
