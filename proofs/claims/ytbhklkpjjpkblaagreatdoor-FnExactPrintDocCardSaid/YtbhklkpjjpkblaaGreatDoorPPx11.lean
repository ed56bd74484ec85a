import Derived.Test.YtbhklkpjjpkblaaGreatDoorHShort
import Derived.Test.YtbhklkpjjpkblaaGreatDoorPPx0
import Derived.Test.YtbhklkpjjpkblaaGreatDoorPPx8
import Derived.Test.YtbhklkpjjpkblaaGreatDoorPPx10
namespace Go.Proofs.YtbhklkpjjpkblaaGreatDoor.PP
open Go.RowKit Go.Proofs.YtbhklkpjjpkblaaGreatDoorW.PrintWords Go.Proofs.YtbhklkpjjpkblaaGreatDoorW.PrintLast Go.Proofs.YtbhklkpjjpkblaaGreatDoorW.PrintMore Go.Proofs.YtbhklkpjjpkblaaGreatDoorW.WordsB Go.Proofs.YtbhklkpjjpkblaaGreatDoorW.GlM Go.Proofs.YtbhklkpjjpkblaaGreatDoorW.Short
attribute [local go_sem] max2_int min2_int max_two min_two max_three min_three max_four min_four
set_option linter.unusedVariables false
set_option linter.unusedSimpArgs false
mutual
def impl_Item_isGood.j0 : Nat → Bool → Int → ByteArray → ByteArray → List (S52) → Option (Bool)
 | 0, _, _, _, _, _ => none
 | k + 1, x38, x222000, x222001, x222002, x222003 => if x38 = true then (some false) else (impl_Item_isGood.l0 k x222003 (x222003.length : Int) 0 x222000 x222001 x222002 x222003)
def impl_Item_isGood.l0 : Nat → List (S52) → Int → Int → Int → ByteArray → ByteArray → List (S52) → Option (Bool)
 | 0, _, _, _, _, _, _, _ => none
 | k + 1, x40, x41, x42, x222000, x222001, x222002, x222003 => if x42 < x41 then (if 0 ≤ x42 then (if x42 < (x40.length : Int) then ((impl_isQualified.f k ((rd_T52 x40 x42).f0)).bind fun t226 => (if t226 = true then ((impl_isPlain.f k ((rd_T52 x40 x42).f1)).bind fun t227 => (impl_Item_isGood.j2 k x42 x40 x41 x42 (!t227) x222000 x222001 x222002 x222003 ((rd_T52 x40 x42).f0) ((rd_T52 x40 x42).f1))) else (impl_Item_isGood.j2 k x42 x40 x41 x42 true x222000 x222001 x222002 x222003 ((rd_T52 x40 x42).f0) ((rd_T52 x40 x42).f1)))) else (none)) else (none)) else (some true)
def impl_Item_isGood.j2 : Nat → Int → List (S52) → Int → Int → Bool → Int → ByteArray → ByteArray → List (S52) → ByteArray → ByteArray → Option (Bool)
 | 0, _, _, _, _, _, _, _, _, _, _, _ => none
 | k + 1, x3, x40, x41, x42, x56, x222000, x222001, x222002, x222003, x226000, x226001 => if x56 = true then (some false) else (if 0 ≤ x3 then (if x3 ≤ (x222003.length : Int) then ((some (x222003.take (x3 : Int).toNat : List (S52))).bind fun y228 => (impl_Item_isGood.l1 k x40 x41 x42 y228 (y228.length : Int) 0 x222000 x222001 x222002 x222003 x226000 x226001)) else (none)) else (none))
def impl_Item_isGood.l1 : Nat → List (S52) → Int → Int → List (S52) → Int → Int → Int → ByteArray → ByteArray → List (S52) → ByteArray → ByteArray → Option (Bool)
 | 0, _, _, _, _, _, _, _, _, _, _, _, _ => none
 | k + 1, x40, x41, x42, x60, x61, x62, x222000, x222001, x222002, x222003, x226000, x226001 => if x62 < x61 then (if 0 ≤ x62 then (if x62 < (x60.length : Int) then (if x226000.toList = ((rd_T52 x60 x62).f0).toList then (some false) else (impl_Item_isGood.l1 k x40 x41 x42 x60 x61 (wrap64 (x62 + 1)) x222000 x222001 x222002 x222003 x226000 x226001)) else (none)) else (none)) else (impl_Item_isGood.l0 k x40 x41 (wrap64 (x42 + 1)) x222000 x222001 x222002 x222003)
end
def impl_Item_isGood.f (k : Nat) (a0_0 : Int) (a0_1 : ByteArray) (a0_2 : ByteArray) (l0_3 : List (S52)) : Option (Bool) := if a0_1.toList = ([] : List UInt8) then (if a0_2.toList = ([] : List UInt8) then (some false) else ((impl_isPlain.f k a0_2).bind fun t222 => (if t222 = true then (some ((l0_3.length : Int) == 0)) else (some false)))) else ((impl_isQualified.f k a0_1).bind fun t223 => (if t223 = true then (if a0_2.toList = ([] : List UInt8) then (impl_Item_isGood.j0 k (decide ((l0_3.length : Int) > 10)) a0_0 a0_1 a0_2 l0_3) else (impl_Item_isGood.j0 k true a0_0 a0_1 a0_2 l0_3)) else (impl_Item_isGood.j0 k true a0_0 a0_1 a0_2 l0_3)))
set_option maxHeartbeats 8000000 in
set_option maxRecDepth 100000 in
theorem impl_Item_isGood.calls (k : Nat) (a0_0 : Int) (a0_1 : ByteArray) (a0_2 : ByteArray) (A0_3 : Option Addr) (c0_3 : Nat) (l0_3 : List (S52)) (r : Bool) (w : World) (hgl : GL w) (hr0_3 : Kd.C k52 w A0_3 l0_3.length l0_3) (hc0_3 : l0_3.length ≤ c0_3) (h : impl_Item_isGood.f k a0_0 a0_1 a0_2 l0_3 = some r) :
  Calls Tryz.prog 27 #[.agg #[.int .i64 a0_0, .string a0_1, .string a0_2, .slice A0_3 l0_3.length c0_3]] w fun e w' => e = .returned (.bool r) ∧ Below w.heap.size w w' := by
 have hu39 := Tryz.underlying39
 have hu52 := Tryz.underlying52
 have HGL := Aside0.mk hgl
 clear hgl
 have HR0_3 := Aside0.mk hr0_3
 have HC0_3 := Aside0.mk hc0_3
 clear hr0_3 hc0_3
 have HB := Aside0.mk (Below.refl w.heap.size w)
 have H : (if a0_1.toList = ([] : List UInt8) then (if a0_2.toList = ([] : List UInt8) then (some false) else ((impl_isPlain.f k a0_2).bind fun t222 => (if t222 = true then (some ((l0_3.length : Int) == 0)) else (some false)))) else ((impl_isQualified.f k a0_1).bind fun t223 => (if t223 = true then (if a0_2.toList = ([] : List UInt8) then (impl_Item_isGood.j0 k (decide ((l0_3.length : Int) > 10)) a0_0 a0_1 a0_2 l0_3) else (impl_Item_isGood.j0 k true a0_0 a0_1 a0_2 l0_3)) else (impl_Item_isGood.j0 k true a0_0 a0_1 a0_2 l0_3)))) = some r := h
 clear h
 by_cases c2 : a0_1.toList = ([] : List UInt8)
 ·rw [if_pos c2] at H
  have c2b0 : (a0_1.toList == ([] : List UInt8)) = true := beq_iff_eq.mpr c2
  have c2b1 : (a0_1.toList != ([] : List UInt8)) = false := bne_eq_false_iff_eq.mpr c2
  have c2b2 : (a0_1).toList.isEmpty = true := by (first | exact (List.isEmpty_iff.mpr (eq_of_beq c2b0)) | exact (Bool.eq_false_iff.mpr (fun h_ => by rw [List.isEmpty_iff.mp h_] at c2b0; cases c2b0)))
  clear c2
  by_cases c3 : a0_2.toList = ([] : List UInt8)
  ·rw [if_pos c3] at H
   have c3b0 : (a0_2.toList == ([] : List UInt8)) = true := beq_iff_eq.mpr c3
   have c3b1 : (a0_2.toList != ([] : List UInt8)) = false := bne_eq_false_iff_eq.mpr c3
   have c3b2 : (a0_2).toList.isEmpty = true := by (first | exact (List.isEmpty_iff.mpr (eq_of_beq c3b0)) | exact (Bool.eq_false_iff.mpr (fun h_ => by rw [List.isEmpty_iff.mp h_] at c3b0; cases c3b0)))
   clear c3
   obtain rfl := Option.some.inj H
   go_enter Tryz.func27, Tryz.ntmps27
   go_wp2_with (first | ((with_reducible refine gate_dst (N := 1) rfl ?_); (try (refine gate_guard (by rfl) ?_; dsimp only)); refine box_event ?hg (N := 1) ?hd (cs := #[.int .i64 a0_0, .string a0_1, .string a0_2, .slice A0_3 l0_3.length c0_3]) (t := 39) ?hr ?_; (case hd => rfl); (case hg => rfl); (case hr => first | (go_simp; done) | (go_simp; rfl)); intro gb221 hg w4 hbox hb; have n0_ := Aside0.mk (below_step aB hb); have n1_ := Aside0.mk (hbox); have n2_ := Aside0.mk ((by rw [hg]; exact (below_size aB) : w.heap.size ≤ gb221)); have n3_ := Aside0.mk ((by rw [hg]; exact (below_size aB) : w.heap.size ≤ gb221)); clear HB; have HB := n0_; have BK221 := n1_; have GW221 := n2_; have GE221 := n3_; clear n0_ n1_ n2_ n3_; clear hb hbox hg; have hcz5_0 : w4.cell? ⟨gb221, 0, none⟩ = some (.int .i64 a0_0) := (blk_cell BK221.out 0).trans rfl; have hcz5_1 : w4.cell? ⟨gb221, 1, none⟩ = some (.string a0_1) := (blk_cell BK221.out 1).trans rfl; have hcz5_2 : w4.cell? ⟨gb221, 2, none⟩ = some (.string a0_2) := (blk_cell BK221.out 2).trans rfl; have hcz5_3 : w4.cell? ⟨gb221, 3, none⟩ = some (.slice A0_3 l0_3.length c0_3) := (blk_cell BK221.out 3).trans rfl; have hfz5_0 := blk_frozen BK221.out 0; have hfz5_1 := blk_frozen BK221.out 1; have hfz5_2 := blk_frozen BK221.out 2; have hfz5_3 := blk_frozen BK221.out 3))
   go_ret
   exact ⟨by first | rfl | (simp only [aX1, aX2]; rfl) | (simp [*] <;> rfl), aE⟩
  rw [if_neg c3] at H
  have c3b0 : (a0_2.toList == ([] : List UInt8)) = false := beq_eq_false_iff_ne.mpr c3
  have c3b1 : (a0_2.toList != ([] : List UInt8)) = true := bne_iff_ne.mpr c3
  have c3b2 : (a0_2).toList.isEmpty = false := by (first | exact (List.isEmpty_iff.mpr (eq_of_beq c3b0)) | exact (Bool.eq_false_iff.mpr (fun h_ => by rw [List.isEmpty_iff.mp h_] at c3b0; cases c3b0)))
  replace H := Option.bind_eq_some_iff.mp H
  obtain ⟨t222, A60, H⟩ := H
  replace H : (if t222 = true then (some ((l0_3.length : Int) == 0)) else (some false)) = some r := H
  have A6 := Aside0.mk A60
  clear A60
  by_cases c7 : t222 = true
  rotate_left
  ·replace c7 := Bool.eq_false_iff.mpr c7
   subst c7
   have H1 : (some false) = some r := by rw [if_neg (show ¬ (false = true) by decide)] at H; exact H
   clear H
   have H := H1
   clear H1
   obtain rfl := Option.some.inj H
   go_enter Tryz.func27, Tryz.ntmps27
   go_wp2_with (first | ((with_reducible refine gate_dst (N := 1) rfl ?_); (try (refine gate_guard (by rfl) ?_; dsimp only)); refine box_event ?hg (N := 1) ?hd (cs := #[.int .i64 a0_0, .string a0_1, .string a0_2, .slice A0_3 l0_3.length c0_3]) (t := 39) ?hr ?_; (case hd => rfl); (case hg => rfl); (case hr => first | (go_simp; done) | (go_simp; rfl)); intro gb221 hg w12 hbox hb; have n0_ := Aside0.mk (below_step aB hb); have n1_ := Aside0.mk (hbox); have n2_ := Aside0.mk ((by rw [hg]; exact (below_size aB) : w.heap.size ≤ gb221)); have n3_ := Aside0.mk ((by rw [hg]; exact (below_size aB) : w.heap.size ≤ gb221)); clear HB; have HB := n0_; have BK221 := n1_; have GW221 := n2_; have GE221 := n3_; clear n0_ n1_ n2_ n3_; clear hb hbox hg; have hcz13_0 : w12.cell? ⟨gb221, 0, none⟩ = some (.int .i64 a0_0) := (blk_cell BK221.out 0).trans rfl; have hcz13_1 : w12.cell? ⟨gb221, 1, none⟩ = some (.string a0_1) := (blk_cell BK221.out 1).trans rfl; have hcz13_2 : w12.cell? ⟨gb221, 2, none⟩ = some (.string a0_2) := (blk_cell BK221.out 2).trans rfl; have hcz13_3 : w12.cell? ⟨gb221, 3, none⟩ = some (.slice A0_3 l0_3.length c0_3) := (blk_cell BK221.out 3).trans rfl; have hfz13_0 := blk_frozen BK221.out 0; have hfz13_1 := blk_frozen BK221.out 1; have hfz13_2 := blk_frozen BK221.out 2; have hfz13_3 := blk_frozen BK221.out 3) | (go_at_call 37; (with_reducible refine (impl_isPlain.calls k a0_2 false _ ?side1 A6.out).mono ?_); (case side1 => exact GL.below HGL.out aE); rintro e w14 ⟨rfl, hb⟩; have n0_ := Aside0.mk (blk_below (g := gb221) (o := .cells #[.int .i64 a0_0, .string a0_1, .string a0_2, .slice A0_3 l0_3.length c0_3] 39 (0, 0)) (aP BK221.out) hb); have n1_ := Aside0.mk (below_step aE hb); clear BK221; clear HB; have BK221 := n0_; have HB := n1_; clear n0_ n1_; (try clear hb); (try clear hb2); (try clear hk); (try clear hi)))
   go_ret
   exact ⟨by first | rfl | (simp only [aX1, aX2]; rfl) | (simp [*] <;> rfl), aE⟩
  subst c7
  have H1 : (some ((l0_3.length : Int) == 0)) = some r := by rw [if_pos rfl] at H; exact H
  clear H
  have H := H1
  clear H1
  obtain rfl := Option.some.inj H
  go_enter Tryz.func27, Tryz.ntmps27
  go_wp2_with (first | ((with_reducible refine gate_dst (N := 1) rfl ?_); (try (refine gate_guard (by rfl) ?_; dsimp only)); refine box_event ?hg (N := 1) ?hd (cs := #[.int .i64 a0_0, .string a0_1, .string a0_2, .slice A0_3 l0_3.length c0_3]) (t := 39) ?hr ?_; (case hd => rfl); (case hg => rfl); (case hr => first | (go_simp; done) | (go_simp; rfl)); intro gb221 hg w8 hbox hb; have n0_ := Aside0.mk (below_step aB hb); have n1_ := Aside0.mk (hbox); have n2_ := Aside0.mk ((by rw [hg]; exact (below_size aB) : w.heap.size ≤ gb221)); have n3_ := Aside0.mk ((by rw [hg]; exact (below_size aB) : w.heap.size ≤ gb221)); clear HB; have HB := n0_; have BK221 := n1_; have GW221 := n2_; have GE221 := n3_; clear n0_ n1_ n2_ n3_; clear hb hbox hg; have hcz9_0 : w8.cell? ⟨gb221, 0, none⟩ = some (.int .i64 a0_0) := (blk_cell BK221.out 0).trans rfl; have hcz9_1 : w8.cell? ⟨gb221, 1, none⟩ = some (.string a0_1) := (blk_cell BK221.out 1).trans rfl; have hcz9_2 : w8.cell? ⟨gb221, 2, none⟩ = some (.string a0_2) := (blk_cell BK221.out 2).trans rfl; have hcz9_3 : w8.cell? ⟨gb221, 3, none⟩ = some (.slice A0_3 l0_3.length c0_3) := (blk_cell BK221.out 3).trans rfl; have hfz9_0 := blk_frozen BK221.out 0; have hfz9_1 := blk_frozen BK221.out 1; have hfz9_2 := blk_frozen BK221.out 2; have hfz9_3 := blk_frozen BK221.out 3) | (go_at_call 37; (with_reducible refine (impl_isPlain.calls k a0_2 true _ ?side1 A6.out).mono ?_); (case side1 => exact GL.below HGL.out aE); rintro e w10 ⟨rfl, hb⟩; have n0_ := Aside0.mk (blk_below (g := gb221) (o := .cells #[.int .i64 a0_0, .string a0_1, .string a0_2, .slice A0_3 l0_3.length c0_3] 39 (0, 0)) (aP BK221.out) hb); have n1_ := Aside0.mk (below_step aE hb); clear BK221; clear HB; have BK221 := n0_; have HB := n1_; clear n0_ n1_; (try clear hb); (try clear hb2); (try clear hk); (try clear hi); have hcz11_0 : w10.cell? ⟨gb221, 0, none⟩ = some (.int .i64 a0_0) := (blk_cell BK221.out 0).trans rfl; have hcz11_1 : w10.cell? ⟨gb221, 1, none⟩ = some (.string a0_1) := (blk_cell BK221.out 1).trans rfl; have hcz11_2 : w10.cell? ⟨gb221, 2, none⟩ = some (.string a0_2) := (blk_cell BK221.out 2).trans rfl; have hcz11_3 : w10.cell? ⟨gb221, 3, none⟩ = some (.slice A0_3 l0_3.length c0_3) := (blk_cell BK221.out 3).trans rfl; have hfz11_0 := blk_frozen BK221.out 0; have hfz11_1 := blk_frozen BK221.out 1; have hfz11_2 := blk_frozen BK221.out 2; have hfz11_3 := blk_frozen BK221.out 3))
  go_ret
  exact ⟨by first | rfl | (simp only [aX1, aX2]; rfl) | (simp [*] <;> rfl), aE⟩
 rw [if_neg c2] at H
 have c2b0 : (a0_1.toList == ([] : List UInt8)) = false := beq_eq_false_iff_ne.mpr c2
 have c2b1 : (a0_1.toList != ([] : List UInt8)) = true := bne_iff_ne.mpr c2
 have c2b2 : (a0_1).toList.isEmpty = false := by (first | exact (List.isEmpty_iff.mpr (eq_of_beq c2b0)) | exact (Bool.eq_false_iff.mpr (fun h_ => by rw [List.isEmpty_iff.mp h_] at c2b0; cases c2b0)))
 have HC15 := Aside0.mk H
 clear H
 go_enter Tryz.func27, Tryz.ntmps27
 go_upto_region 3 with (first | ((with_reducible refine gate_dst (N := 1) rfl ?_); (try (refine gate_guard (by rfl) ?_; dsimp only)); refine box_event ?hg (N := 1) ?hd (cs := #[.int .i64 a0_0, .string a0_1, .string a0_2, .slice A0_3 l0_3.length c0_3]) (t := 39) ?hr ?_; (case hd => rfl); (case hg => rfl); (case hr => first | (go_simp; done) | (go_simp; rfl)); intro gb221 hg w16 hbox hb; have n0_ := Aside0.mk (below_step aB hb); have n1_ := Aside0.mk (hbox); have n2_ := Aside0.mk ((by rw [hg]; exact (below_size aB) : w.heap.size ≤ gb221)); have n3_ := Aside0.mk ((by rw [hg]; exact (below_size aB) : w.heap.size ≤ gb221)); clear HB; have HB := n0_; have BK221 := n1_; have GW221 := n2_; have GE221 := n3_; clear n0_ n1_ n2_ n3_; clear hb hbox hg; have hcz17_0 : w16.cell? ⟨gb221, 0, none⟩ = some (.int .i64 a0_0) := (blk_cell BK221.out 0).trans rfl; have hcz17_1 : w16.cell? ⟨gb221, 1, none⟩ = some (.string a0_1) := (blk_cell BK221.out 1).trans rfl; have hcz17_2 : w16.cell? ⟨gb221, 2, none⟩ = some (.string a0_2) := (blk_cell BK221.out 2).trans rfl; have hcz17_3 : w16.cell? ⟨gb221, 3, none⟩ = some (.slice A0_3 l0_3.length c0_3) := (blk_cell BK221.out 3).trans rfl; have hfz17_0 := blk_frozen BK221.out 0; have hfz17_1 := blk_frozen BK221.out 1; have hfz17_2 := blk_frozen BK221.out 2; have hfz17_3 := blk_frozen BK221.out 3))
 (try simp only [Act.put, List.setIfInBounds_toArray, List.set_cons_zero, List.set_cons_succ])
 go_cut [38] (fun v38 wc => ∃ (kq : Nat) (x38_14 : Bool), v38 = .bool x38_14 ∧ Aside0 (impl_Item_isGood.j0 kq x38_14 a0_0 a0_1 a0_2 l0_3 = some r) ∧ Aside0 (kq ≤ k) ∧ Aside0 (wc.heap[gb221]? = some (.cells #[.int .i64 a0_0, .string a0_1, .string a0_2, (.slice A0_3 l0_3.length c0_3)] 39 (0, 0))) ∧ Aside0 (Below w.heap.size w wc))
 case first =>
  have H := HC15.out
  clear HC15
  replace H := Option.bind_eq_some_iff.mp H
  obtain ⟨t223, A180, H⟩ := H
  replace H : (if t223 = true then (if a0_2.toList = ([] : List UInt8) then (impl_Item_isGood.j0 k (decide ((l0_3.length : Int) > 10)) a0_0 a0_1 a0_2 l0_3) else (impl_Item_isGood.j0 k true a0_0 a0_1 a0_2 l0_3)) else (impl_Item_isGood.j0 k true a0_0 a0_1 a0_2 l0_3)) = some r := H
  have A18 := Aside0.mk A180
  clear A180
  by_cases c19 : t223 = true
  rotate_left
  ·replace c19 := Bool.eq_false_iff.mpr c19
   subst c19
   have H1 : (impl_Item_isGood.j0 k true a0_0 a0_1 a0_2 l0_3) = some r := by rw [if_neg (show ¬ (false = true) by decide)] at H; exact H
   clear H
   have H := H1
   clear H1
   have H' := Aside0.mk H
   clear H
   have hcz23_0 : w16.cell? ⟨gb221, 0, none⟩ = some (.int .i64 a0_0) := (blk_cell BK221.out 0).trans rfl
   have hcz23_1 : w16.cell? ⟨gb221, 1, none⟩ = some (.string a0_1) := (blk_cell BK221.out 1).trans rfl
   have hcz23_2 : w16.cell? ⟨gb221, 2, none⟩ = some (.string a0_2) := (blk_cell BK221.out 2).trans rfl
   have hcz23_3 : w16.cell? ⟨gb221, 3, none⟩ = some (.slice A0_3 l0_3.length c0_3) := (blk_cell BK221.out 3).trans rfl
   have hfz23_0 := blk_frozen BK221.out 0
   have hfz23_1 := blk_frozen BK221.out 1
   have hfz23_2 := blk_frozen BK221.out 2
   have hfz23_3 := blk_frozen BK221.out 3
   go_wp2_with (first | ((with_reducible refine gate_callee (f := 38) rfl ?_); refine goesL_ (some 26) rfl rfl Tryz.func38 (by kernel_rfl) rfl #[.string a0_1] rfl aG ?_; (with_reducible refine (impl_isQualified.calls k a0_1 false _ A18.out).mono ?_); rintro e w' ⟨rfl, ⟨nd, rfl⟩⟩; refine ⟨_, rfl, ?_⟩))
   go_meet
   case rel => exact ⟨_, (true), aR, H', ⟨by first | omega | exact Nat.le_refl _⟩, ⟨aP BK221.out⟩, ⟨aE⟩⟩
  subst c19
  have H1 : (if a0_2.toList = ([] : List UInt8) then (impl_Item_isGood.j0 k (decide ((l0_3.length : Int) > 10)) a0_0 a0_1 a0_2 l0_3) else (impl_Item_isGood.j0 k true a0_0 a0_1 a0_2 l0_3)) = some r := by rw [if_pos rfl] at H; exact H
  clear H
  have H := H1
  clear H1
  by_cases c20 : a0_2.toList = ([] : List UInt8)
  rotate_left
  ·rw [if_neg c20] at H
   have c20b0 : (a0_2.toList == ([] : List UInt8)) = false := beq_eq_false_iff_ne.mpr c20
   have c20b1 : (a0_2.toList != ([] : List UInt8)) = true := bne_iff_ne.mpr c20
   have c20b2 : (a0_2).toList.isEmpty = false := by (first | exact (List.isEmpty_iff.mpr (eq_of_beq c20b0)) | exact (Bool.eq_false_iff.mpr (fun h_ => by rw [List.isEmpty_iff.mp h_] at c20b0; cases c20b0)))
   (first | rw [c20b0] | (simp only [i64_w, i32_w]; rw [c20b0]) | rw [c20b2] | skip)
   have H' := Aside0.mk H
   clear H
   have hcz22_0 : w16.cell? ⟨gb221, 0, none⟩ = some (.int .i64 a0_0) := (blk_cell BK221.out 0).trans rfl
   have hcz22_1 : w16.cell? ⟨gb221, 1, none⟩ = some (.string a0_1) := (blk_cell BK221.out 1).trans rfl
   have hcz22_2 : w16.cell? ⟨gb221, 2, none⟩ = some (.string a0_2) := (blk_cell BK221.out 2).trans rfl
   have hcz22_3 : w16.cell? ⟨gb221, 3, none⟩ = some (.slice A0_3 l0_3.length c0_3) := (blk_cell BK221.out 3).trans rfl
   have hfz22_0 := blk_frozen BK221.out 0
   have hfz22_1 := blk_frozen BK221.out 1
   have hfz22_2 := blk_frozen BK221.out 2
   have hfz22_3 := blk_frozen BK221.out 3
   go_wp2_with (first | ((with_reducible refine gate_callee (f := 38) rfl ?_); refine goesL_ (some 26) rfl rfl Tryz.func38 (by kernel_rfl) rfl #[.string a0_1] rfl aG ?_; (with_reducible refine (impl_isQualified.calls k a0_1 true _ A18.out).mono ?_); rintro e w' ⟨rfl, ⟨nd, rfl⟩⟩; refine ⟨_, rfl, ?_⟩))
   go_meet
   case rel => exact ⟨_, (true), aR, H', ⟨by first | omega | exact Nat.le_refl _⟩, ⟨aP BK221.out⟩, ⟨aE⟩⟩
  rw [if_pos c20] at H
  have c20b0 : (a0_2.toList == ([] : List UInt8)) = true := beq_iff_eq.mpr c20
  have c20b1 : (a0_2.toList != ([] : List UInt8)) = false := bne_eq_false_iff_eq.mpr c20
  have c20b2 : (a0_2).toList.isEmpty = true := by (first | exact (List.isEmpty_iff.mpr (eq_of_beq c20b0)) | exact (Bool.eq_false_iff.mpr (fun h_ => by rw [List.isEmpty_iff.mp h_] at c20b0; cases c20b0)))
  clear c20
  (first | rw [c20b0] | (simp only [i64_w, i32_w]; rw [c20b0]) | rw [c20b2] | skip)
  have H' := Aside0.mk H
  clear H
  have hcz21_0 : w16.cell? ⟨gb221, 0, none⟩ = some (.int .i64 a0_0) := (blk_cell BK221.out 0).trans rfl
  have hcz21_1 : w16.cell? ⟨gb221, 1, none⟩ = some (.string a0_1) := (blk_cell BK221.out 1).trans rfl
  have hcz21_2 : w16.cell? ⟨gb221, 2, none⟩ = some (.string a0_2) := (blk_cell BK221.out 2).trans rfl
  have hcz21_3 : w16.cell? ⟨gb221, 3, none⟩ = some (.slice A0_3 l0_3.length c0_3) := (blk_cell BK221.out 3).trans rfl
  have hfz21_0 := blk_frozen BK221.out 0
  have hfz21_1 := blk_frozen BK221.out 1
  have hfz21_2 := blk_frozen BK221.out 2
  have hfz21_3 := blk_frozen BK221.out 3
  go_wp2_with (first | ((with_reducible refine gate_callee (f := 38) rfl ?_); refine goesL_ (some 26) rfl rfl Tryz.func38 (by kernel_rfl) rfl #[.string a0_1] rfl aG ?_; (with_reducible refine (impl_isQualified.calls k a0_1 true _ A18.out).mono ?_); rintro e w' ⟨rfl, ⟨nd, rfl⟩⟩; refine ⟨_, rfl, ?_⟩))
  go_meet
  case rel => exact ⟨_, (decide ((l0_3.length : Int) > 10)), aR, H', ⟨by first | omega | exact Nat.le_refl _⟩, ⟨aP BK221.out⟩, ⟨aE⟩⟩
 case rest =>
  clear HC15
  try clear c1
  try clear c2
  try clear c2b0
  try clear c2b1
  try clear p2
  try clear c3
  try clear c3b0
  try clear c3b1
  try clear c7
  try clear c19
  try clear c20
  try clear c20b0
  try clear c20b1
  try clear hcz11_0
  try clear hcz11_1
  try clear hcz11_2
  try clear hcz11_3
  try clear hcz13_0
  try clear hcz13_1
  try clear hcz13_2
  try clear hcz13_3
  try clear hcz17_0
  try clear hcz17_1
  try clear hcz17_2
  try clear hcz17_3
  try clear hcz21_0
  try clear hcz21_1
  try clear hcz21_2
  try clear hcz21_3
  try clear hcz22_0
  try clear hcz22_1
  try clear hcz22_2
  try clear hcz22_3
  try clear hcz23_0
  try clear hcz23_1
  try clear hcz23_2
  try clear hcz23_3
  try clear hcz5_0
  try clear hcz5_1
  try clear hcz5_2
  try clear hcz5_3
  try clear hcz9_0
  try clear hcz9_1
  try clear hcz9_2
  try clear hcz9_3
  try clear hfz11_0
  try clear hfz11_1
  try clear hfz11_2
  try clear hfz11_3
  try clear hfz13_0
  try clear hfz13_1
  try clear hfz13_2
  try clear hfz13_3
  try clear hfz17_0
  try clear hfz17_1
  try clear hfz17_2
  try clear hfz17_3
  try clear hfz21_0
  try clear hfz21_1
  try clear hfz21_2
  try clear hfz21_3
  try clear hfz22_0
  try clear hfz22_1
  try clear hfz22_2
  try clear hfz22_3
  try clear hfz23_0
  try clear hfz23_1
  try clear hfz23_2
  try clear hfz23_3
  try clear hfz5_0
  try clear hfz5_1
  try clear hfz5_2
  try clear hfz5_3
  try clear hfz9_0
  try clear hfz9_1
  try clear hfz9_2
  try clear hfz9_3
  obtain ⟨kq, x38_14, rfl, HA, HJ14, BK221, HB⟩ := hcut
  cases kq with
  | zero => exact absurd HA.out (by simp [impl_Item_isGood.j0])
  | succ kj14 =>
   have H := HA.out
   clear HA
   simp only [impl_Item_isGood.j0] at H
   by_cases c24 : x38_14 = true
   ·subst c24
    have H1 : (some false) = some r := by rw [if_pos rfl] at H; exact H
    clear H
    have H := H1
    clear H1
    obtain rfl := Option.some.inj H
    go_wp2
    go_ret
    exact ⟨by first | rfl | (simp only [aX1, aX2]; rfl) | (simp [*] <;> rfl), aE⟩
   replace c24 := Bool.eq_false_iff.mpr c24
   subst c24
   have H1 : (impl_Item_isGood.l0 kj14 l0_3 (l0_3.length : Int) 0 a0_0 a0_1 a0_2 l0_3) = some r := by rw [if_neg (show ¬ (false = true) by decide)] at H; exact H
   clear H
   have H := H1
   clear H1
   have H' := Aside0.mk H
   clear H
   have hcz25_0 : wc.cell? ⟨gb221, 0, none⟩ = some (.int .i64 a0_0) := (blk_cell BK221.out 0).trans rfl
   have hcz25_1 : wc.cell? ⟨gb221, 1, none⟩ = some (.string a0_1) := (blk_cell BK221.out 1).trans rfl
   have hcz25_2 : wc.cell? ⟨gb221, 2, none⟩ = some (.string a0_2) := (blk_cell BK221.out 2).trans rfl
   have hcz25_3 : wc.cell? ⟨gb221, 3, none⟩ = some (.slice A0_3 l0_3.length c0_3) := (blk_cell BK221.out 3).trans rfl
   have hfz25_0 := blk_frozen BK221.out 0
   have hfz25_1 := blk_frozen BK221.out 1
   have hfz25_2 := blk_frozen BK221.out 2
   have hfz25_3 := blk_frozen BK221.out 3
   go_wp2
   go_loopg [42] kj14 (fun kq v42 w' => ∃ (x42_2 : Int), v42 = .int .i64 x42_2 ∧ Aside0 (impl_Item_isGood.l0 kq l0_3 (l0_3.length : Int) x42_2 a0_0 a0_1 a0_2 l0_3 = some r) ∧ Aside0 (kq ≤ kj14) ∧ Aside0 (w'.heap[gb221]? = some (.cells #[.int .i64 a0_0, .string a0_1, .string a0_2, (.slice A0_3 l0_3.length c0_3)] 39 (0, 0))) ∧ Aside0 (Below w.heap.size w w'))
   case atStart => exact ⟨(0), aR, H', ⟨Nat.le_refl _⟩, ⟨aP BK221.out⟩, ⟨aE⟩⟩
   case round =>
    clear H'
    try clear c1
    try clear c2
    try clear c2b0
    try clear c2b1
    try clear p2
    try clear c3
    try clear c3b0
    try clear c3b1
    try clear c7
    try clear c19
    try clear c20
    try clear c20b0
    try clear c20b1
    try clear c24
    try clear hcz11_0
    try clear hcz11_1
    try clear hcz11_2
    try clear hcz11_3
    try clear hcz13_0
    try clear hcz13_1
    try clear hcz13_2
    try clear hcz13_3
    try clear hcz17_0
    try clear hcz17_1
    try clear hcz17_2
    try clear hcz17_3
    try clear hcz21_0
    try clear hcz21_1
    try clear hcz21_2
    try clear hcz21_3
    try clear hcz22_0
    try clear hcz22_1
    try clear hcz22_2
    try clear hcz22_3
    try clear hcz23_0
    try clear hcz23_1
    try clear hcz23_2
    try clear hcz23_3
    try clear hcz25_0
    try clear hcz25_1
    try clear hcz25_2
    try clear hcz25_3
    try clear hcz5_0
    try clear hcz5_1
    try clear hcz5_2
    try clear hcz5_3
    try clear hcz9_0
    try clear hcz9_1
    try clear hcz9_2
    try clear hcz9_3
    try clear hfz11_0
    try clear hfz11_1
    try clear hfz11_2
    try clear hfz11_3
    try clear hfz13_0
    try clear hfz13_1
    try clear hfz13_2
    try clear hfz13_3
    try clear hfz17_0
    try clear hfz17_1
    try clear hfz17_2
    try clear hfz17_3
    try clear hfz21_0
    try clear hfz21_1
    try clear hfz21_2
    try clear hfz21_3
    try clear hfz22_0
    try clear hfz22_1
    try clear hfz22_2
    try clear hfz22_3
    try clear hfz23_0
    try clear hfz23_1
    try clear hfz23_2
    try clear hfz23_3
    try clear hfz25_0
    try clear hfz25_1
    try clear hfz25_2
    try clear hfz25_3
    try clear hfz5_0
    try clear hfz5_1
    try clear hfz5_2
    try clear hfz5_3
    try clear hfz9_0
    try clear hfz9_1
    try clear hfz9_2
    try clear hfz9_3
    try clear p2
    obtain ⟨x42_2, rfl, HA, HK2, BK221, HB⟩ := hrel
    cases gk with
    | zero => exact absurd HA.out (by simp [impl_Item_isGood.l0])
    | succ k2 =>
     have H := HA.out
     clear HA
     simp only [impl_Item_isGood.l0] at H
     by_cases c26 : x42_2 < (l0_3.length : Int)
     rotate_left
     ·rw [if_neg c26] at H
      have c26b0 : decide (x42_2 < (l0_3.length : Int)) = false := decide_eq_false c26
      clear c26
      obtain rfl := Option.some.inj H
      go_wp2
      go_ret
      exact ⟨by first | rfl | (simp only [aX1, aX2]; rfl) | (simp [*] <;> rfl), aE⟩
     rw [if_pos c26] at H
     have c26b0 : decide (x42_2 < (l0_3.length : Int)) = true := decide_eq_true c26
     clear c26
     by_cases c27 : 0 ≤ x42_2
     rotate_left
     ·rw [if_neg c27] at H
      exact absurd H (by simp)
     rw [if_pos c27] at H
     have c27b0 : decide (0 ≤ x42_2) = true := decide_eq_true c27
     clear c27
     by_cases c28 : x42_2 < (l0_3.length : Int)
     rotate_left
     ·rw [if_neg c28] at H
      exact absurd H (by simp)
     rw [if_pos c28] at H
     have c28b0 : decide (x42_2 < (l0_3.length : Int)) = true := decide_eq_true c28
     clear c28
     have HC29 := Aside0.mk H
     clear H
     have p224 : 0 ≤ (x42_2 : Int) := aD
     have q224 : x42_2 < (l0_3.length : Int) := aD
     obtain ⟨ad224, e224, hx224_0, hx224_1⟩ := at_T52 HR0_3.out x42_2 p224 q224
     cases e224
     replace hx224_0 := (HB.out.cell (World.block_lt_of_cell? w _ hx224_0)).trans hx224_0
     replace hx224_1 := (HB.out.cell (World.block_lt_of_cell? w _ hx224_1)).trans hx224_1
     replace p224 := eq_true p224
     replace q224 := eq_true q224
     go_upto_region 8 with (first | ((with_reducible refine gate_dst (N := 4) rfl ?_); (try (refine gate_guard (by rfl) ?_; dsimp only)); refine box_event ?hg (N := 4) ?hd (cs := #[.string (⟨#[]⟩ : ByteArray), .string (⟨#[]⟩ : ByteArray)]) (t := 52) ?hr ?_; (case hd => rfl); (case hg => rfl); (case hr => first | (go_simp; done) | (go_simp; rfl)); intro gb225 hg w30 hbox hb; have n0_ := Aside0.mk (blk_below (g := gb221) (o := .cells #[.int .i64 a0_0, .string a0_1, .string a0_2, .slice (some ad224) l0_3.length c0_3] 39 (0, 0)) (aP BK221.out) hb); have n1_ := Aside0.mk (below_step aE hb); have n2_ := Aside0.mk (hbox); have n3_ := Aside0.mk ((by rw [hg]; exact (below_size aE) : w.heap.size ≤ gb225)); have n4_ := Aside0.mk ((by rw [hg]; exact (below_size aE) : w.heap.size ≤ gb225)); have n5_ := Aside0.mk ((by rw [hg]; exact Nat.ne_of_lt (blk_lt (g := gb221) (o := .cells #[.int .i64 a0_0, .string a0_1, .string a0_2, .slice (some ad224) l0_3.length c0_3] 39 (0, 0)) (aP BK221.out)) : gb221 ≠ gb225)); have n6_ := Aside0.mk ((by rw [hg]; exact Nat.ne_of_gt (blk_lt (g := gb221) (o := .cells #[.int .i64 a0_0, .string a0_1, .string a0_2, .slice (some ad224) l0_3.length c0_3] 39 (0, 0)) (aP BK221.out)) : gb225 ≠ gb221)); clear BK221; clear HB; have BK221 := n0_; have HB := n1_; have BK225 := n2_; have GW225 := n3_; have GE225 := n4_; have NB221_225 := n5_; have NB225_221 := n6_; clear n0_ n1_ n2_ n3_ n4_ n5_ n6_; clear hb hbox hg; have hnb31 := NB225_221.out; have hnc31 := NB221_225.out; have hcz32_0 : w30.cell? ⟨gb225, 0, none⟩ = some (.string (⟨#[]⟩ : ByteArray)) := (blk_cell BK225.out 0).trans rfl; have hcz32_1 : w30.cell? ⟨gb225, 1, none⟩ = some (.string (⟨#[]⟩ : ByteArray)) := (blk_cell BK225.out 1).trans rfl; have hfz32_0 := blk_frozen BK225.out 0; have hfz32_1 := blk_frozen BK225.out 1))
     (try simp only [Act.put, List.setIfInBounds_toArray, List.set_cons_zero, List.set_cons_succ])
     go_cut [56] (fun v56 wc => ∃ (kq : Nat) (x56_28 : Bool), v56 = .bool x56_28 ∧ Aside0 (impl_Item_isGood.j2 kq x42_2 l0_3 (l0_3.length : Int) x42_2 x56_28 a0_0 a0_1 a0_2 l0_3 ((rd_T52 l0_3 x42_2).f0) ((rd_T52 l0_3 x42_2).f1) = some r) ∧ Aside0 (kq ≤ k2) ∧ Aside0 (wc.heap[gb221]? = some (.cells #[.int .i64 a0_0, .string a0_1, .string a0_2, (.slice (some ad224) l0_3.length c0_3)] 39 (0, 0))) ∧ Aside0 (wc.heap[gb225]? = some (.cells #[.string ((rd_T52 l0_3 x42_2).f0), .string ((rd_T52 l0_3 x42_2).f1)] 52 (0, 0))) ∧ Aside0 (Below w.heap.size w wc))
     case first =>
      have H := HC29.out
      clear HC29
      replace H := Option.bind_eq_some_iff.mp H
      obtain ⟨t226, A330, H⟩ := H
      replace H : (if t226 = true then ((impl_isPlain.f k2 ((rd_T52 l0_3 x42_2).f1)).bind fun t227 => (impl_Item_isGood.j2 k2 x42_2 l0_3 (l0_3.length : Int) x42_2 (!t227) a0_0 a0_1 a0_2 l0_3 ((rd_T52 l0_3 x42_2).f0) ((rd_T52 l0_3 x42_2).f1))) else (impl_Item_isGood.j2 k2 x42_2 l0_3 (l0_3.length : Int) x42_2 true a0_0 a0_1 a0_2 l0_3 ((rd_T52 l0_3 x42_2).f0) ((rd_T52 l0_3 x42_2).f1))) = some r := H
      have A33 := Aside0.mk A330
      clear A330
      by_cases c34 : t226 = true
      rotate_left
      ·replace c34 := Bool.eq_false_iff.mpr c34
       subst c34
       have H1 : (impl_Item_isGood.j2 k2 x42_2 l0_3 (l0_3.length : Int) x42_2 true a0_0 a0_1 a0_2 l0_3 ((rd_T52 l0_3 x42_2).f0) ((rd_T52 l0_3 x42_2).f1)) = some r := by rw [if_neg (show ¬ (false = true) by decide)] at H; exact H
       clear H
       have H := H1
       clear H1
       have H' := Aside0.mk H
       clear H
       have hnb39 := NB225_221.out
       have hnc39 := NB221_225.out
       have hcz40_0 : w30.cell? ⟨gb225, 0, none⟩ = some (.string (⟨#[]⟩ : ByteArray)) := (blk_cell BK225.out 0).trans rfl
       have hcz40_1 : w30.cell? ⟨gb225, 1, none⟩ = some (.string (⟨#[]⟩ : ByteArray)) := (blk_cell BK225.out 1).trans rfl
       have hfz40_0 := blk_frozen BK225.out 0
       have hfz40_1 := blk_frozen BK225.out 1
       go_wp2_with (first | ((with_reducible refine gate_callee (f := 38) rfl ?_); refine goesL_ (some 49) rfl rfl Tryz.func38 (by kernel_rfl) rfl #[.string ((rd_T52 l0_3 x42_2).f0)] rfl aG ?_; (with_reducible refine (impl_isQualified.calls k2 ((rd_T52 l0_3 x42_2).f0) false _ A33.out).mono ?_); rintro e w' ⟨rfl, ⟨nd, rfl⟩⟩; refine ⟨_, rfl, ?_⟩))
       go_meet
       case rel => exact ⟨_, (true), aR, H', ⟨by have := HJ14.out; have := HK2.out; first | omega | exact Nat.le_refl _⟩, ⟨by (with_reducible repeat (first | apply d1 | apply d2 | apply d3)); refine blk_far ?_ NB221_225.out _; (with_reducible repeat (first | apply d1 | apply d2 | apply d3)); refine blk_far ?_ NB221_225.out _; (with_reducible repeat (first | apply d1 | apply d2 | apply d3)); exact BK221.out⟩, ⟨by (with_reducible repeat (first | apply d1 | apply d2 | apply d3)); refine blk_put (cs := #[.string ((rd_T52 l0_3 x42_2).f0), .string (⟨#[]⟩ : ByteArray)]) ?_ 1 _ rfl; (with_reducible repeat (first | apply d1 | apply d2 | apply d3)); refine blk_put (cs := #[.string (⟨#[]⟩ : ByteArray), .string (⟨#[]⟩ : ByteArray)]) ?_ 0 _ rfl; (with_reducible repeat (first | apply d1 | apply d2 | apply d3)); exact BK225.out⟩, ⟨aE⟩⟩
      subst c34
      have H1 : ((impl_isPlain.f k2 ((rd_T52 l0_3 x42_2).f1)).bind fun t227 => (impl_Item_isGood.j2 k2 x42_2 l0_3 (l0_3.length : Int) x42_2 (!t227) a0_0 a0_1 a0_2 l0_3 ((rd_T52 l0_3 x42_2).f0) ((rd_T52 l0_3 x42_2).f1))) = some r := by rw [if_pos rfl] at H; exact H
      clear H
      have H := H1
      clear H1
      replace H := Option.bind_eq_some_iff.mp H
      obtain ⟨t227, A350, H⟩ := H
      replace H : (impl_Item_isGood.j2 k2 x42_2 l0_3 (l0_3.length : Int) x42_2 (!t227) a0_0 a0_1 a0_2 l0_3 ((rd_T52 l0_3 x42_2).f0) ((rd_T52 l0_3 x42_2).f1)) = some r := H
      have A35 := Aside0.mk A350
      clear A350
      have H' := Aside0.mk H
      clear H
      have hnb36 := NB225_221.out
      have hnc36 := NB221_225.out
      have hcz37_0 : w30.cell? ⟨gb225, 0, none⟩ = some (.string (⟨#[]⟩ : ByteArray)) := (blk_cell BK225.out 0).trans rfl
      have hcz37_1 : w30.cell? ⟨gb225, 1, none⟩ = some (.string (⟨#[]⟩ : ByteArray)) := (blk_cell BK225.out 1).trans rfl
      have hfz37_0 := blk_frozen BK225.out 0
      have hfz37_1 := blk_frozen BK225.out 1
      go_wp2_with (first | ((with_reducible refine gate_callee (f := 38) rfl ?_); refine goesL_ (some 49) rfl rfl Tryz.func38 (by kernel_rfl) rfl #[.string ((rd_T52 l0_3 x42_2).f0)] rfl aG ?_; (with_reducible refine (impl_isQualified.calls k2 ((rd_T52 l0_3 x42_2).f0) true _ A33.out).mono ?_); rintro e w' ⟨rfl, ⟨nd, rfl⟩⟩; refine ⟨_, rfl, ?_⟩) | (go_at_call 37; (with_reducible refine (impl_isPlain.calls k2 ((rd_T52 l0_3 x42_2).f1) t227 _ ?side1 A35.out).mono ?_); (case side1 => exact GL.below HGL.out aE); rintro e w38 ⟨rfl, hb⟩; have n0_ := Aside0.mk (blk_below (g := gb221) (o := .cells #[.int .i64 a0_0, .string a0_1, .string a0_2, .slice (some ad224) l0_3.length c0_3] 39 (0, 0)) (by (with_reducible repeat (first | apply d1 | apply d2 | apply d3)); refine blk_far ?_ NB221_225.out _; (with_reducible repeat (first | apply d1 | apply d2 | apply d3)); refine blk_far ?_ NB221_225.out _; (with_reducible repeat (first | apply d1 | apply d2 | apply d3)); exact BK221.out) hb); have n1_ := Aside0.mk (blk_below (g := gb225) (o := .cells #[.string ((rd_T52 l0_3 x42_2).f0), .string ((rd_T52 l0_3 x42_2).f1)] 52 (0, 0)) (by (with_reducible repeat (first | apply d1 | apply d2 | apply d3)); refine blk_put (cs := #[.string ((rd_T52 l0_3 x42_2).f0), .string (⟨#[]⟩ : ByteArray)]) ?_ 1 _ rfl; (with_reducible repeat (first | apply d1 | apply d2 | apply d3)); refine blk_put (cs := #[.string (⟨#[]⟩ : ByteArray), .string (⟨#[]⟩ : ByteArray)]) ?_ 0 _ rfl; (with_reducible repeat (first | apply d1 | apply d2 | apply d3)); exact BK225.out) hb); have n2_ := Aside0.mk (below_step aE hb); clear BK221; clear BK225; clear HB; have BK221 := n0_; have BK225 := n1_; have HB := n2_; clear n0_ n1_ n2_; (try clear hb); (try clear hb2); (try clear hk); (try clear hi)))
      go_meet
      case rel => exact ⟨_, (!t227), aR, H', ⟨by have := HJ14.out; have := HK2.out; first | omega | exact Nat.le_refl _⟩, ⟨aP BK221.out⟩, ⟨aP BK225.out⟩, ⟨aE⟩⟩
     case rest =>
      clear HC29
      try clear c1
      try clear c2
      try clear c2b0
      try clear c2b1
      try clear p2
      try clear q2
      try clear hx2
      try clear c3
      try clear c3b0
      try clear c3b1
      try clear c7
      try clear c19
      try clear c20
      try clear c20b0
      try clear c20b1
      try clear p22
      try clear q22
      try clear hx22
      try clear c24
      try clear c26
      try clear c26b0
      try clear c27
      try clear c27b0
      try clear c28
      try clear c28b0
      try clear c31
      try clear c34
      try clear c36
      try clear c38
      try clear c39
      try clear hcz11_0
      try clear hcz11_1
      try clear hcz11_2
      try clear hcz11_3
      try clear hcz13_0
      try clear hcz13_1
      try clear hcz13_2
      try clear hcz13_3
      try clear hcz17_0
      try clear hcz17_1
      try clear hcz17_2
      try clear hcz17_3
      try clear hcz21_0
      try clear hcz21_1
      try clear hcz21_2
      try clear hcz21_3
      try clear hcz22_0
      try clear hcz22_1
      try clear hcz22_2
      try clear hcz22_3
      try clear hcz23_0
      try clear hcz23_1
      try clear hcz23_2
      try clear hcz23_3
      try clear hcz25_0
      try clear hcz25_1
      try clear hcz25_2
      try clear hcz25_3
      try clear hcz32_0
      try clear hcz32_1
      try clear hcz37_0
      try clear hcz37_1
      try clear hcz40_0
      try clear hcz40_1
      try clear hcz5_0
      try clear hcz5_1
      try clear hcz5_2
      try clear hcz5_3
      try clear hcz9_0
      try clear hcz9_1
      try clear hcz9_2
      try clear hcz9_3
      try clear hfz11_0
      try clear hfz11_1
      try clear hfz11_2
      try clear hfz11_3
      try clear hfz13_0
      try clear hfz13_1
      try clear hfz13_2
      try clear hfz13_3
      try clear hfz17_0
      try clear hfz17_1
      try clear hfz17_2
      try clear hfz17_3
      try clear hfz21_0
      try clear hfz21_1
      try clear hfz21_2
      try clear hfz21_3
      try clear hfz22_0
      try clear hfz22_1
      try clear hfz22_2
      try clear hfz22_3
      try clear hfz23_0
      try clear hfz23_1
      try clear hfz23_2
      try clear hfz23_3
      try clear hfz25_0
      try clear hfz25_1
      try clear hfz25_2
      try clear hfz25_3
      try clear hfz32_0
      try clear hfz32_1
      try clear hfz37_0
      try clear hfz37_1
      try clear hfz40_0
      try clear hfz40_1
      try clear hfz5_0
      try clear hfz5_1
      try clear hfz5_2
      try clear hfz5_3
      try clear hfz9_0
      try clear hfz9_1
      try clear hfz9_2
      try clear hfz9_3
      try clear hx224_0
      try clear hx224_1
      try clear p2
      try clear p224
      try clear q224
      obtain ⟨kq, x56_28, rfl, HA, HJ28, BK221, BK225, HB⟩ := hcut
      cases kq with
      | zero => exact absurd HA.out (by simp [impl_Item_isGood.j2])
      | succ kj28 =>
       have H := HA.out
       clear HA
       simp only [impl_Item_isGood.j2] at H
       by_cases c41 : x56_28 = true
       ·subst c41
        have H1 : (some false) = some r := by rw [if_pos rfl] at H; exact H
        clear H
        have H := H1
        clear H1
        obtain rfl := Option.some.inj H
        go_wp2
        go_ret
        exact ⟨by first | rfl | (simp only [aX1, aX2]; rfl) | (simp [*] <;> rfl), aE⟩
       replace c41 := Bool.eq_false_iff.mpr c41
       subst c41
       have H1 : (if 0 ≤ x42_2 then (if x42_2 ≤ (l0_3.length : Int) then ((some (l0_3.take (x42_2 : Int).toNat : List (S52))).bind fun y228 => (impl_Item_isGood.l1 kj28 l0_3 (l0_3.length : Int) x42_2 y228 (y228.length : Int) 0 a0_0 a0_1 a0_2 l0_3 ((rd_T52 l0_3 x42_2).f0) ((rd_T52 l0_3 x42_2).f1))) else (none)) else (none)) = some r := by rw [if_neg (show ¬ (false = true) by decide)] at H; exact H
       clear H
       have H := H1
       clear H1
       by_cases c42 : 0 ≤ x42_2
       rotate_left
       ·rw [if_neg c42] at H
        exact absurd H (by simp)
       rw [if_pos c42] at H
       have c42b0 := eq_true c42
       have c42b1 : decide (0 ≤ x42_2) = true := decide_eq_true c42
       clear c42
       by_cases c43 : x42_2 ≤ (l0_3.length : Int)
       rotate_left
       ·rw [if_neg c43] at H
        exact absurd H (by simp)
       rw [if_pos c43] at H
       have c43b0 := eq_true c43
       have c43b1 : decide (x42_2 ≤ (l0_3.length : Int)) = true := decide_eq_true c43
       clear c43
       obtain ⟨y228, hy228⟩ : ∃ y_ : List (S52), y_ = (l0_3.take (x42_2 : Int).toNat) := ⟨_, rfl⟩
       replace H : (impl_Item_isGood.l1 kj28 l0_3 (l0_3.length : Int) x42_2 y228 (y228.length : Int) 0 a0_0 a0_1 a0_2 l0_3 ((rd_T52 l0_3 x42_2).f0) ((rd_T52 l0_3 x42_2).f1)) = some r := by first | (rw [hy228]; with_reducible exact H) | (have H2_ := (Option.bind_some _ _).symm.trans H; rw [hy228]; with_reducible exact H2_) | (have H2_ := (Option.bind_some _ _).symm.trans H; with_reducible exact H2_) | with_reducible exact H | (rw [hy228]; exact H) | exact H
       have Ny228 := Aside0.mk hy228
       clear hy228
       have H' := Aside0.mk H
       clear H
       have hnb44 := NB221_225.out
       have hnc44 := NB225_221.out
       have hcz45_0 : wc.cell? ⟨gb221, 0, none⟩ = some (.int .i64 a0_0) := (blk_cell BK221.out 0).trans rfl
       have hcz45_1 : wc.cell? ⟨gb221, 1, none⟩ = some (.string a0_1) := (blk_cell BK221.out 1).trans rfl
       have hcz45_2 : wc.cell? ⟨gb221, 2, none⟩ = some (.string a0_2) := (blk_cell BK221.out 2).trans rfl
       have hcz45_3 : wc.cell? ⟨gb221, 3, none⟩ = some (.slice (some ad224) l0_3.length c0_3) := (blk_cell BK221.out 3).trans rfl
       have hfz45_0 := blk_frozen BK221.out 0
       have hfz45_1 := blk_frozen BK221.out 1
       have hfz45_2 := blk_frozen BK221.out 2
       have hfz45_3 := blk_frozen BK221.out 3
       have q46 : (x42_2 : Int) ≤ ((l0_3.length : Int) : Int) := aD
       obtain ⟨i046, hi046, _, hsz46, _⟩ := info_parts info52
       have hroom46 : l0_3.length ≤ c0_3 := HC0_3.out
       have hC46 : Kd.C k52 _ (some ad224) l0_3.length l0_3 := HR0_3.out
       have hcut46 := cut_to (P := Tryz.prog) 37 52 .i64 Tryz.underlying37 hi046 (some ad224) l0_3.length c0_3 x42_2 (aD) q46 hroom46
       have hr46 := Kd.C_take (m := (x42_2 : Int).toNat) hC46 (by omega)
       have hy46 : y228.length = (x42_2 : Int).toNat := (by rw [Ny228.out, List.length_take]; omega)
       rw [← Ny228.out] at hr46
       rw [← hy46] at hcut46
       have HR231 := Aside0.mk hr46
       have HC231 := Aside0.mk (show y228.length ≤ c0_3 from by omega)
       clear hr46 hC46 hroom46 hi046 hsz46
       have KY46 := Aside0.mk hy46
       clear hy46
       replace q46 := eq_true q46
       go_wp2
       go_loopg [62] kj28 (fun kq v62 w' => ∃ (x62_4 : Int), v62 = .int .i64 x62_4 ∧ Aside0 (impl_Item_isGood.l1 kq l0_3 (l0_3.length : Int) x42_2 y228 (y228.length : Int) x62_4 a0_0 a0_1 a0_2 l0_3 ((rd_T52 l0_3 x42_2).f0) ((rd_T52 l0_3 x42_2).f1) = some r) ∧ Aside0 (kq ≤ kj28) ∧ Aside0 (w'.heap[gb221]? = some (.cells #[.int .i64 a0_0, .string a0_1, .string a0_2, (.slice (some ad224) l0_3.length c0_3)] 39 (0, 0))) ∧ Aside0 (w'.heap[gb225]? = some (.cells #[.string ((rd_T52 l0_3 x42_2).f0), .string ((rd_T52 l0_3 x42_2).f1)] 52 (0, 0))) ∧ Aside0 (Below w.heap.size w w'))
       case atStart => exact ⟨(0), aR, H', ⟨Nat.le_refl _⟩, ⟨aP BK221.out⟩, ⟨aP BK225.out⟩, ⟨aE⟩⟩
       case round =>
        clear H'
        try clear c1
        try clear c2
        try clear c2b0
        try clear c2b1
        try clear p2
        try clear q2
        try clear hx2
        try clear c3
        try clear c3b0
        try clear c3b1
        try clear c4
        try clear q4
        try clear c7
        try clear c19
        try clear c20
        try clear c20b0
        try clear c20b1
        try clear p22
        try clear q22
        try clear hx22
        try clear c24
        try clear c26
        try clear c26b0
        try clear c27
        try clear c27b0
        try clear c28
        try clear c28b0
        try clear c31
        try clear c34
        try clear c36
        try clear c38
        try clear c39
        try clear c41
        try clear c42
        try clear c42b0
        try clear c42b1
        try clear c43
        try clear c43b0
        try clear c43b1
        try clear c44
        try clear q46
        try clear hcz11_0
        try clear hcz11_1
        try clear hcz11_2
        try clear hcz11_3
        try clear hcz13_0
        try clear hcz13_1
        try clear hcz13_2
        try clear hcz13_3
        try clear hcz17_0
        try clear hcz17_1
        try clear hcz17_2
        try clear hcz17_3
        try clear hcz21_0
        try clear hcz21_1
        try clear hcz21_2
        try clear hcz21_3
        try clear hcz22_0
        try clear hcz22_1
        try clear hcz22_2
        try clear hcz22_3
        try clear hcz23_0
        try clear hcz23_1
        try clear hcz23_2
        try clear hcz23_3
        try clear hcz25_0
        try clear hcz25_1
        try clear hcz25_2
        try clear hcz25_3
        try clear hcz32_0
        try clear hcz32_1
        try clear hcz37_0
        try clear hcz37_1
        try clear hcz40_0
        try clear hcz40_1
        try clear hcz45_0
        try clear hcz45_1
        try clear hcz45_2
        try clear hcz45_3
        try clear hcz5_0
        try clear hcz5_1
        try clear hcz5_2
        try clear hcz5_3
        try clear hcz9_0
        try clear hcz9_1
        try clear hcz9_2
        try clear hcz9_3
        try clear hfz11_0
        try clear hfz11_1
        try clear hfz11_2
        try clear hfz11_3
        try clear hfz13_0
        try clear hfz13_1
        try clear hfz13_2
        try clear hfz13_3
        try clear hfz17_0
        try clear hfz17_1
        try clear hfz17_2
        try clear hfz17_3
        try clear hfz21_0
        try clear hfz21_1
        try clear hfz21_2
        try clear hfz21_3
        try clear hfz22_0
        try clear hfz22_1
        try clear hfz22_2
        try clear hfz22_3
        try clear hfz23_0
        try clear hfz23_1
        try clear hfz23_2
        try clear hfz23_3
        try clear hfz25_0
        try clear hfz25_1
        try clear hfz25_2
        try clear hfz25_3
        try clear hfz32_0
        try clear hfz32_1
        try clear hfz37_0
        try clear hfz37_1
        try clear hfz40_0
        try clear hfz40_1
        try clear hfz45_0
        try clear hfz45_1
        try clear hfz45_2
        try clear hfz45_3
        try clear hfz5_0
        try clear hfz5_1
        try clear hfz5_2
        try clear hfz5_3
        try clear hfz9_0
        try clear hfz9_1
        try clear hfz9_2
        try clear hfz9_3
        try clear hx224_0
        try clear hx224_1
        try clear p2
        try clear p22
        try clear p224
        try clear q2
        try clear q22
        try clear q224
        try clear q46
        obtain ⟨x62_4, rfl, HA, HK4, BK221, BK225, HB⟩ := hrel
        cases gk with
        | zero => exact absurd HA.out (by simp [impl_Item_isGood.l1])
        | succ k4 =>
         have H := HA.out
         clear HA
         simp only [impl_Item_isGood.l1] at H
         by_cases c47 : x62_4 < (y228.length : Int)
         rotate_left
         ·rw [if_neg c47] at H
          have c47b0 : decide (x62_4 < (y228.length : Int)) = false := decide_eq_false c47
          clear c47
          have H' := Aside0.mk H
          clear H
          go_wp2
          go_roundg k4
          case measure => have := HJ14.out; have := HK2.out; have := HJ28.out; have := HK4.out; omega
          case rel => exact ⟨(wrap64 (x42_2 + 1)), aR, H', ⟨by have := HJ14.out; have := HK2.out; have := HJ28.out; have := HK4.out; omega⟩, ⟨aP BK221.out⟩, ⟨aE⟩⟩
         rw [if_pos c47] at H
         have c47b0 : decide (x62_4 < (y228.length : Int)) = true := decide_eq_true c47
         clear c47
         by_cases c48 : 0 ≤ x62_4
         rotate_left
         ·rw [if_neg c48] at H
          exact absurd H (by simp)
         rw [if_pos c48] at H
         have c48b0 : decide (0 ≤ x62_4) = true := decide_eq_true c48
         clear c48
         by_cases c49 : x62_4 < (y228.length : Int)
         rotate_left
         ·rw [if_neg c49] at H
          exact absurd H (by simp)
         rw [if_pos c49] at H
         have c49b0 : decide (x62_4 < (y228.length : Int)) = true := decide_eq_true c49
         clear c49
         by_cases c50 : ((rd_T52 l0_3 x42_2).f0).toList = ((rd_T52 y228 x62_4).f0).toList
         ·rw [if_pos c50] at H
          have c50b0 : (((rd_T52 l0_3 x42_2).f0).toList == ((rd_T52 y228 x62_4).f0).toList) = true := beq_iff_eq.mpr c50
          have c50b1 : (((rd_T52 l0_3 x42_2).f0).toList != ((rd_T52 y228 x62_4).f0).toList) = false := bne_eq_false_iff_eq.mpr c50
          clear c50
          obtain rfl := Option.some.inj H
          have p232 : 0 ≤ (x62_4 : Int) := aD
          have q232 : x62_4 < (y228.length : Int) := aD
          obtain ⟨ad232, e232, hx232_0, hx232_1⟩ := at_T52 HR231.out x62_4 p232 q232
          obtain rfl : ad224 = ad232 := (by injection e232)
          replace hx232_0 := (HB.out.cell (World.block_lt_of_cell? w _ hx232_0)).trans hx232_0
          replace hx232_1 := (HB.out.cell (World.block_lt_of_cell? w _ hx232_1)).trans hx232_1
          replace p232 := eq_true p232
          replace q232 := eq_true q232
          go_wp2_with (first | ((with_reducible refine gate_dst (N := 6) rfl ?_); (try (refine gate_guard (by rfl) ?_; dsimp only)); refine box_event ?hg (N := 6) ?hd (cs := #[.string (⟨#[]⟩ : ByteArray), .string (⟨#[]⟩ : ByteArray)]) (t := 52) ?hr ?_; (case hd => rfl); (case hg => rfl); (case hr => first | (go_simp; done) | (go_simp; rfl)); intro gb233 hg w51 hbox hb; have n0_ := Aside0.mk (blk_below (g := gb221) (o := .cells #[.int .i64 a0_0, .string a0_1, .string a0_2, .slice (some ad224) l0_3.length c0_3] 39 (0, 0)) (aP BK221.out) hb); have n1_ := Aside0.mk (blk_below (g := gb225) (o := .cells #[.string ((rd_T52 l0_3 x42_2).f0), .string ((rd_T52 l0_3 x42_2).f1)] 52 (0, 0)) (aP BK225.out) hb); have n2_ := Aside0.mk (below_step aE hb); have n3_ := Aside0.mk (hbox); have n4_ := Aside0.mk ((by rw [hg]; exact (below_size aE) : w.heap.size ≤ gb233)); have n5_ := Aside0.mk ((by rw [hg]; exact (below_size aE) : w.heap.size ≤ gb233)); have n6_ := Aside0.mk ((by rw [hg]; exact Nat.ne_of_lt (blk_lt (g := gb221) (o := .cells #[.int .i64 a0_0, .string a0_1, .string a0_2, .slice (some ad224) l0_3.length c0_3] 39 (0, 0)) (aP BK221.out)) : gb221 ≠ gb233)); have n7_ := Aside0.mk ((by rw [hg]; exact Nat.ne_of_gt (blk_lt (g := gb221) (o := .cells #[.int .i64 a0_0, .string a0_1, .string a0_2, .slice (some ad224) l0_3.length c0_3] 39 (0, 0)) (aP BK221.out)) : gb233 ≠ gb221)); have n8_ := Aside0.mk ((by rw [hg]; exact Nat.ne_of_lt (blk_lt (g := gb225) (o := .cells #[.string ((rd_T52 l0_3 x42_2).f0), .string ((rd_T52 l0_3 x42_2).f1)] 52 (0, 0)) (aP BK225.out)) : gb225 ≠ gb233)); have n9_ := Aside0.mk ((by rw [hg]; exact Nat.ne_of_gt (blk_lt (g := gb225) (o := .cells #[.string ((rd_T52 l0_3 x42_2).f0), .string ((rd_T52 l0_3 x42_2).f1)] 52 (0, 0)) (aP BK225.out)) : gb233 ≠ gb225)); clear BK221; clear BK225; clear HB; have BK221 := n0_; have BK225 := n1_; have HB := n2_; have BK233 := n3_; have GW233 := n4_; have GE233 := n5_; have NB221_233 := n6_; have NB233_221 := n7_; have NB225_233 := n8_; have NB233_225 := n9_; clear n0_ n1_ n2_ n3_ n4_ n5_ n6_ n7_ n8_ n9_; clear hb hbox hg; have hnb52 := NB233_221.out; have hnc52 := NB221_233.out; have hnb53 := NB233_225.out; have hnc53 := NB225_233.out; have hcz54_0 : w51.cell? ⟨gb233, 0, none⟩ = some (.string (⟨#[]⟩ : ByteArray)) := (blk_cell BK233.out 0).trans rfl; have hcz54_1 : w51.cell? ⟨gb233, 1, none⟩ = some (.string (⟨#[]⟩ : ByteArray)) := (blk_cell BK233.out 1).trans rfl; have hfz54_0 := blk_frozen BK233.out 0; have hfz54_1 := blk_frozen BK233.out 1; have hnb55 := NB225_221.out; have hnc55 := NB221_225.out; have hcz56_0 : w51.cell? ⟨gb225, 0, none⟩ = some (.string ((rd_T52 l0_3 x42_2).f0)) := (blk_cell BK225.out 0).trans rfl; have hcz56_1 : w51.cell? ⟨gb225, 1, none⟩ = some (.string ((rd_T52 l0_3 x42_2).f1)) := (blk_cell BK225.out 1).trans rfl; have hfz56_0 := blk_frozen BK225.out 0; have hfz56_1 := blk_frozen BK225.out 1))
          go_ret
          exact ⟨by first | rfl | (simp only [aX1, aX2]; rfl) | (simp [*] <;> rfl), aE⟩
         rw [if_neg c50] at H
         have c50b0 : (((rd_T52 l0_3 x42_2).f0).toList == ((rd_T52 y228 x62_4).f0).toList) = false := beq_eq_false_iff_ne.mpr c50
         have c50b1 : (((rd_T52 l0_3 x42_2).f0).toList != ((rd_T52 y228 x62_4).f0).toList) = true := bne_iff_ne.mpr c50
         have H' := Aside0.mk H
         clear H
         have p232 : 0 ≤ (x62_4 : Int) := aD
         have q232 : x62_4 < (y228.length : Int) := aD
         obtain ⟨ad232, e232, hx232_0, hx232_1⟩ := at_T52 HR231.out x62_4 p232 q232
         obtain rfl : ad224 = ad232 := (by injection e232)
         replace hx232_0 := (HB.out.cell (World.block_lt_of_cell? w _ hx232_0)).trans hx232_0
         replace hx232_1 := (HB.out.cell (World.block_lt_of_cell? w _ hx232_1)).trans hx232_1
         replace p232 := eq_true p232
         replace q232 := eq_true q232
         go_wp2_with (first | ((with_reducible refine gate_dst (N := 6) rfl ?_); (try (refine gate_guard (by rfl) ?_; dsimp only)); refine box_event ?hg (N := 6) ?hd (cs := #[.string (⟨#[]⟩ : ByteArray), .string (⟨#[]⟩ : ByteArray)]) (t := 52) ?hr ?_; (case hd => rfl); (case hg => rfl); (case hr => first | (go_simp; done) | (go_simp; rfl)); intro gb233 hg w57 hbox hb; have n0_ := Aside0.mk (blk_below (g := gb221) (o := .cells #[.int .i64 a0_0, .string a0_1, .string a0_2, .slice (some ad224) l0_3.length c0_3] 39 (0, 0)) (aP BK221.out) hb); have n1_ := Aside0.mk (blk_below (g := gb225) (o := .cells #[.string ((rd_T52 l0_3 x42_2).f0), .string ((rd_T52 l0_3 x42_2).f1)] 52 (0, 0)) (aP BK225.out) hb); have n2_ := Aside0.mk (below_step aE hb); have n3_ := Aside0.mk (hbox); have n4_ := Aside0.mk ((by rw [hg]; exact (below_size aE) : w.heap.size ≤ gb233)); have n5_ := Aside0.mk ((by rw [hg]; exact (below_size aE) : w.heap.size ≤ gb233)); have n6_ := Aside0.mk ((by rw [hg]; exact Nat.ne_of_lt (blk_lt (g := gb221) (o := .cells #[.int .i64 a0_0, .string a0_1, .string a0_2, .slice (some ad224) l0_3.length c0_3] 39 (0, 0)) (aP BK221.out)) : gb221 ≠ gb233)); have n7_ := Aside0.mk ((by rw [hg]; exact Nat.ne_of_gt (blk_lt (g := gb221) (o := .cells #[.int .i64 a0_0, .string a0_1, .string a0_2, .slice (some ad224) l0_3.length c0_3] 39 (0, 0)) (aP BK221.out)) : gb233 ≠ gb221)); have n8_ := Aside0.mk ((by rw [hg]; exact Nat.ne_of_lt (blk_lt (g := gb225) (o := .cells #[.string ((rd_T52 l0_3 x42_2).f0), .string ((rd_T52 l0_3 x42_2).f1)] 52 (0, 0)) (aP BK225.out)) : gb225 ≠ gb233)); have n9_ := Aside0.mk ((by rw [hg]; exact Nat.ne_of_gt (blk_lt (g := gb225) (o := .cells #[.string ((rd_T52 l0_3 x42_2).f0), .string ((rd_T52 l0_3 x42_2).f1)] 52 (0, 0)) (aP BK225.out)) : gb233 ≠ gb225)); clear BK221; clear BK225; clear HB; have BK221 := n0_; have BK225 := n1_; have HB := n2_; have BK233 := n3_; have GW233 := n4_; have GE233 := n5_; have NB221_233 := n6_; have NB233_221 := n7_; have NB225_233 := n8_; have NB233_225 := n9_; clear n0_ n1_ n2_ n3_ n4_ n5_ n6_ n7_ n8_ n9_; clear hb hbox hg; have hnb58 := NB233_221.out; have hnc58 := NB221_233.out; have hnb59 := NB233_225.out; have hnc59 := NB225_233.out; have hcz60_0 : w57.cell? ⟨gb233, 0, none⟩ = some (.string (⟨#[]⟩ : ByteArray)) := (blk_cell BK233.out 0).trans rfl; have hcz60_1 : w57.cell? ⟨gb233, 1, none⟩ = some (.string (⟨#[]⟩ : ByteArray)) := (blk_cell BK233.out 1).trans rfl; have hfz60_0 := blk_frozen BK233.out 0; have hfz60_1 := blk_frozen BK233.out 1; have hnb61 := NB225_221.out; have hnc61 := NB221_225.out; have hcz62_0 : w57.cell? ⟨gb225, 0, none⟩ = some (.string ((rd_T52 l0_3 x42_2).f0)) := (blk_cell BK225.out 0).trans rfl; have hcz62_1 : w57.cell? ⟨gb225, 1, none⟩ = some (.string ((rd_T52 l0_3 x42_2).f1)) := (blk_cell BK225.out 1).trans rfl; have hfz62_0 := blk_frozen BK225.out 0; have hfz62_1 := blk_frozen BK225.out 1))
         go_roundg k4
         case measure => have := HJ14.out; have := HK2.out; have := HJ28.out; have := HK4.out; omega
         case rel => exact ⟨(wrap64 (x62_4 + 1)), aR, H', ⟨by have := HJ14.out; have := HK2.out; have := HJ28.out; have := HK4.out; omega⟩, ⟨by (with_reducible repeat (first | apply d1 | apply d2 | apply d3)); refine blk_far ?_ NB221_233.out _; (with_reducible repeat (first | apply d1 | apply d2 | apply d3)); refine blk_far ?_ NB221_233.out _; (with_reducible repeat (first | apply d1 | apply d2 | apply d3)); exact BK221.out⟩, ⟨by (with_reducible repeat (first | apply d1 | apply d2 | apply d3)); refine blk_far ?_ NB225_233.out _; (with_reducible repeat (first | apply d1 | apply d2 | apply d3)); refine blk_far ?_ NB225_233.out _; (with_reducible repeat (first | apply d1 | apply d2 | apply d3)); exact BK225.out⟩, ⟨aE⟩⟩
end Go.Proofs.YtbhklkpjjpkblaaGreatDoor.PP
