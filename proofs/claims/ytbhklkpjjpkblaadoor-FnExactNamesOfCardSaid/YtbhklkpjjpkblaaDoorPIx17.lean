import Derived.Test.YtbhklkpjjpkblaaDoorHShort
import Derived.Test.YtbhklkpjjpkblaaDoorPIx0
import Derived.Test.YtbhklkpjjpkblaaDoorPIx12
import Derived.Test.YtbhklkpjjpkblaaDoorPIx15
import Derived.Test.YtbhklkpjjpkblaaDoorPIx16
namespace Go.Proofs.YtbhklkpjjpkblaaDoor.PI
open Go.RowKit Go.Proofs.YtbhklkpjjpkblaaDoorW.PrintWords Go.Proofs.YtbhklkpjjpkblaaDoorW.PrintLast Go.Proofs.YtbhklkpjjpkblaaDoorW.PrintMore Go.Proofs.YtbhklkpjjpkblaaDoorW.WordsB Go.Proofs.YtbhklkpjjpkblaaDoorW.GlM Go.Proofs.YtbhklkpjjpkblaaDoorW.Short
attribute [local go_sem] max2_int min2_int max_two min_two max_three min_three max_four min_four
set_option linter.unusedVariables false
set_option linter.unusedSimpArgs false
mutual
def impl_DocOk.j0 : Nat → List (S74) → Bool → Option (Bool)
 | 0, _, _ => none
 | k + 1, x0, x24 => if x24 = true then (some false) else (impl_DocOk.l0 k x0 0 (([] : List Int)) x0 (x0.length : Int) 0)
def impl_DocOk.l0 : Nat → List (S74) → Int → List Int → List (S74) → Int → Int → Option (Bool)
 | 0, _, _, _, _, _, _ => none
 | k + 1, x0, x3, x4, x26, x27, x28 => if x28 < x27 then (if 0 ≤ x28 then (if x28 < (x26.length : Int) then ((impl_Item_isGood.f k ((rd_T74 x26 x28).f0) ((rd_T74 x26 x28).f1) ((rd_T74 x26 x28).f2) ((rd_T74 x26 x28).f3)).bind fun t303 => (if t303 = true then ((impl_Item_bytes.f k ((rd_T74 x26 x28).f0) ((rd_T74 x26 x28).f1) ((rd_T74 x26 x28).f2) ((rd_T74 x26 x28).f3)).bind fun t304 => (impl_DocOk.l1 k x0 (wrap64 (x3 + t304)) x4 x28 x26 x27 x28 ((rd_T74 x26 x28).f0) ((rd_T74 x26 x28).f1) ((rd_T74 x26 x28).f2) ((rd_T74 x26 x28).f3))) else (some false))) else (none)) else (none)) else (some (decide (x3 ≤ 2500)))
def impl_DocOk.j3 : Nat → List (S74) → Int → List Int → Int → List (S74) → Int → Int → Int → ByteArray → ByteArray → List (S76) → Option (Bool)
 | 0, _, _, _, _, _, _, _, _, _, _, _ => none
 | k + 1, x0, x3, x4, x5, x26, x27, x28, x303000, x303001, x303002, x303003 => if x5 > 0 then (if (x4.length : Int) = 0 then (impl_DocOk.j4 k x0 x3 x4 x5 x26 x27 x28 true x303000 x303001 x303002 x303003) else (impl_DocOk.j4 k x0 x3 x4 x5 x26 x27 x28 (decide ((x4.length : Int) ≥ 20)) x303000 x303001 x303002 x303003)) else (impl_DocOk.j4 k x0 x3 x4 x5 x26 x27 x28 (decide ((x4.length : Int) ≥ 20)) x303000 x303001 x303002 x303003)
def impl_DocOk.j4 : Nat → List (S74) → Int → List Int → Int → List (S74) → Int → Int → Bool → Int → ByteArray → ByteArray → List (S76) → Option (Bool)
 | 0, _, _, _, _, _, _, _, _, _, _, _, _ => none
 | k + 1, x0, x3, x4, x5, x26, x27, x28, x70, x303000, x303001, x303002, x303003 => if x70 = true then (some false) else (if x303001.toList = ([] : List UInt8) then (if x5 > 0 then (if 0 ≤ (wrap64 (x5 - 1)) then (if (wrap64 (x5 - 1)) < (x0.length : Int) then (if ((rd_T74 x0 (wrap64 (x5 - 1))).f1).toList = ([] : List UInt8) then (if ((rd_T74 x0 (wrap64 (x5 - 1))).f0) = x303000 then (some false) else (impl_DocOk.l0 k x0 x3 x4 x26 x27 (wrap64 (x28 + 1)))) else (impl_DocOk.l0 k x0 x3 x4 x26 x27 (wrap64 (x28 + 1)))) else (none)) else (none)) else (impl_DocOk.l0 k x0 x3 x4 x26 x27 (wrap64 (x28 + 1)))) else (if x4.length < 17592186044416 then (impl_DocOk.l0 k x0 x3 (x4 ++ [x5]) x26 x27 (wrap64 (x28 + 1))) else (none)))
def impl_DocOk.l1 : Nat → List (S74) → Int → List Int → Int → List (S74) → Int → Int → Int → ByteArray → ByteArray → List (S76) → Option (Bool)
 | 0, _, _, _, _, _, _, _, _, _, _, _ => none
 | k + 1, x0, x3, x4, x5, x26, x27, x28, x303000, x303001, x303002, x303003 => if (x4.length : Int) > 0 then (if 0 ≤ (wrap64 ((x4.length : Int) - 1)) then (if (wrap64 ((x4.length : Int) - 1)) < (x4.length : Int) then (if (rd x4 (wrap64 ((x4.length : Int) - 1))) = x303000 then (impl_DocOk.j3 k x0 x3 x4 x5 x26 x27 x28 x303000 x303001 x303002 x303003) else (if (wrap64 ((x4.length : Int) - 1)) ≤ (x4.length : Int) then (impl_DocOk.l1 k x0 x3 (x4.take ((wrap64 ((x4.length : Int) - 1)) : Int).toNat) x5 x26 x27 x28 x303000 x303001 x303002 x303003) else (none))) else (none)) else (none)) else (impl_DocOk.j3 k x0 x3 x4 x5 x26 x27 x28 x303000 x303001 x303002 x303003)
end
def impl_DocOk.f (k : Nat) (l0 : List (S74)) : Option (Bool) := (impl_in.f (l0.length : Int) 1 200).bind fun t295 => (if t295 = true then (if 0 < (l0.length : Int) then (if ((rd_T74 l0 0).f0) = (-1) then (impl_DocOk.j0 k l0 (((rd_T74 l0 0).f1).toList == ([] : List UInt8))) else (impl_DocOk.j0 k l0 true)) else (none)) else (impl_DocOk.j0 k l0 true))
set_option maxHeartbeats 8000000 in
set_option maxRecDepth 100000 in
theorem impl_DocOk.calls (k : Nat) (A0 : Option Addr) (c0 : Nat) (l0 : List (S74)) (r : Bool) (w : World) (hgl : GL w) (hr0 : Kd.C k74 w A0 l0.length l0) (hc0 : l0.length ≤ c0) (h : impl_DocOk.f k l0 = some r) :
  Calls Tryd.prog 18 #[.slice A0 l0.length c0] w fun e w' => e = .returned (.bool r) ∧ Below w.heap.size w w' := by
 have hu74 := Tryd.underlying74
 have HGL := Aside0.mk hgl
 clear hgl
 have HR0 := Aside0.mk hr0
 have HC0 := Aside0.mk hc0
 clear hr0 hc0
 have HB := Aside0.mk (Below.refl w.heap.size w)
 have H : ((impl_in.f (l0.length : Int) 1 200).bind fun t295 => (if t295 = true then (if 0 < (l0.length : Int) then (if ((rd_T74 l0 0).f0) = (-1) then (impl_DocOk.j0 k l0 (((rd_T74 l0 0).f1).toList == ([] : List UInt8))) else (impl_DocOk.j0 k l0 true)) else (none)) else (impl_DocOk.j0 k l0 true))) = some r := h
 clear h
 have HC2 := Aside0.mk H
 clear H
 go_enter Tryd.func18, Tryd.ntmps18
 go_upto_region 1 with (fail)
 repeat (go_quiet (fail); go_upto_region 1 with (fail))
 go_cut [24] (fun v24 wc => ∃ (kq : Nat) (x24_1 : Bool), v24 = .bool x24_1 ∧ Aside0 (impl_DocOk.j0 kq l0 x24_1 = some r) ∧ Aside0 (kq ≤ k) ∧ Aside0 (Below w.heap.size w wc))
 case first =>
  have H := HC2.out
  clear HC2
  replace H := Option.bind_eq_some_iff.mp H
  obtain ⟨t295, A30, H⟩ := H
  replace H : (if t295 = true then (if 0 < (l0.length : Int) then (if ((rd_T74 l0 0).f0) = (-1) then (impl_DocOk.j0 k l0 (((rd_T74 l0 0).f1).toList == ([] : List UInt8))) else (impl_DocOk.j0 k l0 true)) else (none)) else (impl_DocOk.j0 k l0 true)) = some r := H
  have A3 := Aside0.mk A30
  clear A30
  by_cases c4 : t295 = true
  rotate_left
  ·replace c4 := Bool.eq_false_iff.mpr c4
   subst c4
   have H1 : (impl_DocOk.j0 k l0 true) = some r := by rw [if_neg (show ¬ (false = true) by decide)] at H; exact H
   clear H
   have H := H1
   clear H1
   have H' := Aside0.mk H
   clear H
   go_wp2_with (first | (go_at_call 54; (with_reducible refine (impl_in.calls (l0.length : Int) 1 200 false _ A3.out).mono ?_); rintro e w' ⟨rfl, ⟨nd, rfl⟩⟩; (try first | exact aZ1 | exact aZ2)))
   repeat (go_quiet (first | (go_at_call 54; (with_reducible refine (impl_in.calls (l0.length : Int) 1 200 false _ A3.out).mono ?_); rintro e w' ⟨rfl, ⟨nd, rfl⟩⟩; (try first | exact aZ1 | exact aZ2))); try go_wp2_with (first | (go_at_call 54; (with_reducible refine (impl_in.calls (l0.length : Int) 1 200 false _ A3.out).mono ?_); rintro e w' ⟨rfl, ⟨nd, rfl⟩⟩; (try first | exact aZ1 | exact aZ2))))
   go_meet
   case rel => exact ⟨_, (true), aR, H', ⟨by first | omega | exact Nat.le_refl _⟩, ⟨aB⟩⟩
  subst c4
  have H1 : (if 0 < (l0.length : Int) then (if ((rd_T74 l0 0).f0) = (-1) then (impl_DocOk.j0 k l0 (((rd_T74 l0 0).f1).toList == ([] : List UInt8))) else (impl_DocOk.j0 k l0 true)) else (none)) = some r := by rw [if_pos rfl] at H; exact H
  clear H
  have H := H1
  clear H1
  by_cases c5 : 0 < (l0.length : Int)
  rotate_left
  ·rw [if_neg c5] at H
   exact absurd H (by simp)
  rw [if_pos c5] at H
  have c5b0 : decide (0 < (l0.length : Int)) = true := decide_eq_true c5
  have c5b1 : decide (0 < l0.length) = true := decide_eq_true (by omega)
  clear c5
  (first | rw [c5b0] | (simp only [i64_w, i32_w]; rw [c5b0]) | skip)
  by_cases c6 : ((rd_T74 l0 0).f0) = (-1)
  rotate_left
  ·rw [if_neg c6] at H
   have c6b0 : (((rd_T74 l0 0).f0) == (-1)) = false := beq_eq_false_iff_ne.mpr c6
   have c6b1 : (((rd_T74 l0 0).f0) != (-1)) = true := bne_iff_ne.mpr c6
   have H' := Aside0.mk H
   clear H
   go_wp2_with (first | (go_at_call 54; (with_reducible refine (impl_in.calls (l0.length : Int) 1 200 true _ A3.out).mono ?_); rintro e w' ⟨rfl, ⟨nd, rfl⟩⟩; (try first | exact aZ1 | exact aZ2); have p296 : 0 ≤ (0 : Int) := (by omega); have q296 : 0 < (l0.length : Int) := aD; obtain ⟨ad296, A296_3, c296_3, e296, hx296_0, hx296_1, hx296_2, hx296_3, hl296_3, hi296_3⟩ := at_T74 HR0.out 0 p296 q296; cases e296; have qi296 : (0 < l0.length) = True := eq_true (by omega); (try rw [show ((0 : Int)).toNat = 0 from rfl] at hx296_0); (try rw [show 0 * 4 = 0 from rfl] at hx296_0); (try rw [Addr.add_zero'] at hx296_0); (try rw [show ((0 : Int)).toNat = 0 from rfl] at hx296_1); (try rw [show 0 * 4 = 0 from rfl] at hx296_1); (try rw [Addr.add_zero'] at hx296_1); (try rw [show ((0 : Int)).toNat = 0 from rfl] at hx296_2); (try rw [show 0 * 4 = 0 from rfl] at hx296_2); (try rw [Addr.add_zero'] at hx296_2); (try rw [show ((0 : Int)).toNat = 0 from rfl] at hx296_3); (try rw [show 0 * 4 = 0 from rfl] at hx296_3); (try rw [Addr.add_zero'] at hx296_3); replace hx296_0 := (HB.out.cell (World.block_lt_of_cell? w _ hx296_0)).trans hx296_0; replace hx296_1 := (HB.out.cell (World.block_lt_of_cell? w _ hx296_1)).trans hx296_1; replace hx296_2 := (HB.out.cell (World.block_lt_of_cell? w _ hx296_2)).trans hx296_2; replace hx296_3 := (HB.out.cell (World.block_lt_of_cell? w _ hx296_3)).trans hx296_3; have HR296_3 := Aside0.mk hi296_3; have HC296_3 := Aside0.mk hl296_3; clear hi296_3 hl296_3; replace p296 := eq_true p296; replace q296 := eq_true q296))
   repeat (go_quiet (first | (go_at_call 54; (with_reducible refine (impl_in.calls (l0.length : Int) 1 200 true _ A3.out).mono ?_); rintro e w' ⟨rfl, ⟨nd, rfl⟩⟩; (try first | exact aZ1 | exact aZ2); have p296 : 0 ≤ (0 : Int) := (by omega); have q296 : 0 < (l0.length : Int) := aD; obtain ⟨ad296, A296_3, c296_3, e296, hx296_0, hx296_1, hx296_2, hx296_3, hl296_3, hi296_3⟩ := at_T74 HR0.out 0 p296 q296; cases e296; have qi296 : (0 < l0.length) = True := eq_true (by omega); (try rw [show ((0 : Int)).toNat = 0 from rfl] at hx296_0); (try rw [show 0 * 4 = 0 from rfl] at hx296_0); (try rw [Addr.add_zero'] at hx296_0); (try rw [show ((0 : Int)).toNat = 0 from rfl] at hx296_1); (try rw [show 0 * 4 = 0 from rfl] at hx296_1); (try rw [Addr.add_zero'] at hx296_1); (try rw [show ((0 : Int)).toNat = 0 from rfl] at hx296_2); (try rw [show 0 * 4 = 0 from rfl] at hx296_2); (try rw [Addr.add_zero'] at hx296_2); (try rw [show ((0 : Int)).toNat = 0 from rfl] at hx296_3); (try rw [show 0 * 4 = 0 from rfl] at hx296_3); (try rw [Addr.add_zero'] at hx296_3); replace hx296_0 := (HB.out.cell (World.block_lt_of_cell? w _ hx296_0)).trans hx296_0; replace hx296_1 := (HB.out.cell (World.block_lt_of_cell? w _ hx296_1)).trans hx296_1; replace hx296_2 := (HB.out.cell (World.block_lt_of_cell? w _ hx296_2)).trans hx296_2; replace hx296_3 := (HB.out.cell (World.block_lt_of_cell? w _ hx296_3)).trans hx296_3; have HR296_3 := Aside0.mk hi296_3; have HC296_3 := Aside0.mk hl296_3; clear hi296_3 hl296_3; replace p296 := eq_true p296; replace q296 := eq_true q296)); try go_wp2_with (first | (go_at_call 54; (with_reducible refine (impl_in.calls (l0.length : Int) 1 200 true _ A3.out).mono ?_); rintro e w' ⟨rfl, ⟨nd, rfl⟩⟩; (try first | exact aZ1 | exact aZ2); have p296 : 0 ≤ (0 : Int) := (by omega); have q296 : 0 < (l0.length : Int) := aD; obtain ⟨ad296, A296_3, c296_3, e296, hx296_0, hx296_1, hx296_2, hx296_3, hl296_3, hi296_3⟩ := at_T74 HR0.out 0 p296 q296; cases e296; have qi296 : (0 < l0.length) = True := eq_true (by omega); (try rw [show ((0 : Int)).toNat = 0 from rfl] at hx296_0); (try rw [show 0 * 4 = 0 from rfl] at hx296_0); (try rw [Addr.add_zero'] at hx296_0); (try rw [show ((0 : Int)).toNat = 0 from rfl] at hx296_1); (try rw [show 0 * 4 = 0 from rfl] at hx296_1); (try rw [Addr.add_zero'] at hx296_1); (try rw [show ((0 : Int)).toNat = 0 from rfl] at hx296_2); (try rw [show 0 * 4 = 0 from rfl] at hx296_2); (try rw [Addr.add_zero'] at hx296_2); (try rw [show ((0 : Int)).toNat = 0 from rfl] at hx296_3); (try rw [show 0 * 4 = 0 from rfl] at hx296_3); (try rw [Addr.add_zero'] at hx296_3); replace hx296_0 := (HB.out.cell (World.block_lt_of_cell? w _ hx296_0)).trans hx296_0; replace hx296_1 := (HB.out.cell (World.block_lt_of_cell? w _ hx296_1)).trans hx296_1; replace hx296_2 := (HB.out.cell (World.block_lt_of_cell? w _ hx296_2)).trans hx296_2; replace hx296_3 := (HB.out.cell (World.block_lt_of_cell? w _ hx296_3)).trans hx296_3; have HR296_3 := Aside0.mk hi296_3; have HC296_3 := Aside0.mk hl296_3; clear hi296_3 hl296_3; replace p296 := eq_true p296; replace q296 := eq_true q296)))
   go_meet
   case rel => exact ⟨_, (true), aR, H', ⟨by first | omega | exact Nat.le_refl _⟩, ⟨aB⟩⟩
  rw [if_pos c6] at H
  have c6b0 : (((rd_T74 l0 0).f0) == (-1)) = true := beq_iff_eq.mpr c6
  have c6b1 : (((rd_T74 l0 0).f0) != (-1)) = false := bne_eq_false_iff_eq.mpr c6
  clear c6
  have H' := Aside0.mk H
  clear H
  go_wp2_with (first | (go_at_call 54; (with_reducible refine (impl_in.calls (l0.length : Int) 1 200 true _ A3.out).mono ?_); rintro e w' ⟨rfl, ⟨nd, rfl⟩⟩; (try first | exact aZ1 | exact aZ2); have p296 : 0 ≤ (0 : Int) := (by omega); have q296 : 0 < (l0.length : Int) := aD; obtain ⟨ad296, A296_3, c296_3, e296, hx296_0, hx296_1, hx296_2, hx296_3, hl296_3, hi296_3⟩ := at_T74 HR0.out 0 p296 q296; cases e296; have qi296 : (0 < l0.length) = True := eq_true (by omega); (try rw [show ((0 : Int)).toNat = 0 from rfl] at hx296_0); (try rw [show 0 * 4 = 0 from rfl] at hx296_0); (try rw [Addr.add_zero'] at hx296_0); (try rw [show ((0 : Int)).toNat = 0 from rfl] at hx296_1); (try rw [show 0 * 4 = 0 from rfl] at hx296_1); (try rw [Addr.add_zero'] at hx296_1); (try rw [show ((0 : Int)).toNat = 0 from rfl] at hx296_2); (try rw [show 0 * 4 = 0 from rfl] at hx296_2); (try rw [Addr.add_zero'] at hx296_2); (try rw [show ((0 : Int)).toNat = 0 from rfl] at hx296_3); (try rw [show 0 * 4 = 0 from rfl] at hx296_3); (try rw [Addr.add_zero'] at hx296_3); replace hx296_0 := (HB.out.cell (World.block_lt_of_cell? w _ hx296_0)).trans hx296_0; replace hx296_1 := (HB.out.cell (World.block_lt_of_cell? w _ hx296_1)).trans hx296_1; replace hx296_2 := (HB.out.cell (World.block_lt_of_cell? w _ hx296_2)).trans hx296_2; replace hx296_3 := (HB.out.cell (World.block_lt_of_cell? w _ hx296_3)).trans hx296_3; have HR296_3 := Aside0.mk hi296_3; have HC296_3 := Aside0.mk hl296_3; clear hi296_3 hl296_3; replace p296 := eq_true p296; replace q296 := eq_true q296; have p297 : 0 ≤ (0 : Int) := (by omega); have q297 : 0 < (l0.length : Int) := aD; obtain ⟨ad297, A297_3, c297_3, e297, hx297_0, hx297_1, hx297_2, hx297_3, hl297_3, hi297_3⟩ := at_T74 HR0.out 0 p297 q297; obtain rfl : ad296 = ad297 := (by injection e297); have qi297 : (0 < l0.length) = True := eq_true (by omega); (try rw [show ((0 : Int)).toNat = 0 from rfl] at hx297_0); (try rw [show 0 * 4 = 0 from rfl] at hx297_0); (try rw [Addr.add_zero'] at hx297_0); (try rw [show ((0 : Int)).toNat = 0 from rfl] at hx297_1); (try rw [show 0 * 4 = 0 from rfl] at hx297_1); (try rw [Addr.add_zero'] at hx297_1); (try rw [show ((0 : Int)).toNat = 0 from rfl] at hx297_2); (try rw [show 0 * 4 = 0 from rfl] at hx297_2); (try rw [Addr.add_zero'] at hx297_2); (try rw [show ((0 : Int)).toNat = 0 from rfl] at hx297_3); (try rw [show 0 * 4 = 0 from rfl] at hx297_3); (try rw [Addr.add_zero'] at hx297_3); replace hx297_0 := (HB.out.cell (World.block_lt_of_cell? w _ hx297_0)).trans hx297_0; replace hx297_1 := (HB.out.cell (World.block_lt_of_cell? w _ hx297_1)).trans hx297_1; replace hx297_2 := (HB.out.cell (World.block_lt_of_cell? w _ hx297_2)).trans hx297_2; replace hx297_3 := (HB.out.cell (World.block_lt_of_cell? w _ hx297_3)).trans hx297_3; have HR297_3 := Aside0.mk hi297_3; have HC297_3 := Aside0.mk hl297_3; clear hi297_3 hl297_3; replace p297 := eq_true p297; replace q297 := eq_true q297; have ea_ := Option.some.inj (hx296_3.symm.trans hx297_3); injection ea_ with ea_ en_ ec_; subst ea_; subst ec_; clear en_))
  repeat (go_quiet (first | (go_at_call 54; (with_reducible refine (impl_in.calls (l0.length : Int) 1 200 true _ A3.out).mono ?_); rintro e w' ⟨rfl, ⟨nd, rfl⟩⟩; (try first | exact aZ1 | exact aZ2); have p296 : 0 ≤ (0 : Int) := (by omega); have q296 : 0 < (l0.length : Int) := aD; obtain ⟨ad296, A296_3, c296_3, e296, hx296_0, hx296_1, hx296_2, hx296_3, hl296_3, hi296_3⟩ := at_T74 HR0.out 0 p296 q296; cases e296; have qi296 : (0 < l0.length) = True := eq_true (by omega); (try rw [show ((0 : Int)).toNat = 0 from rfl] at hx296_0); (try rw [show 0 * 4 = 0 from rfl] at hx296_0); (try rw [Addr.add_zero'] at hx296_0); (try rw [show ((0 : Int)).toNat = 0 from rfl] at hx296_1); (try rw [show 0 * 4 = 0 from rfl] at hx296_1); (try rw [Addr.add_zero'] at hx296_1); (try rw [show ((0 : Int)).toNat = 0 from rfl] at hx296_2); (try rw [show 0 * 4 = 0 from rfl] at hx296_2); (try rw [Addr.add_zero'] at hx296_2); (try rw [show ((0 : Int)).toNat = 0 from rfl] at hx296_3); (try rw [show 0 * 4 = 0 from rfl] at hx296_3); (try rw [Addr.add_zero'] at hx296_3); replace hx296_0 := (HB.out.cell (World.block_lt_of_cell? w _ hx296_0)).trans hx296_0; replace hx296_1 := (HB.out.cell (World.block_lt_of_cell? w _ hx296_1)).trans hx296_1; replace hx296_2 := (HB.out.cell (World.block_lt_of_cell? w _ hx296_2)).trans hx296_2; replace hx296_3 := (HB.out.cell (World.block_lt_of_cell? w _ hx296_3)).trans hx296_3; have HR296_3 := Aside0.mk hi296_3; have HC296_3 := Aside0.mk hl296_3; clear hi296_3 hl296_3; replace p296 := eq_true p296; replace q296 := eq_true q296; have p297 : 0 ≤ (0 : Int) := (by omega); have q297 : 0 < (l0.length : Int) := aD; obtain ⟨ad297, A297_3, c297_3, e297, hx297_0, hx297_1, hx297_2, hx297_3, hl297_3, hi297_3⟩ := at_T74 HR0.out 0 p297 q297; obtain rfl : ad296 = ad297 := (by injection e297); have qi297 : (0 < l0.length) = True := eq_true (by omega); (try rw [show ((0 : Int)).toNat = 0 from rfl] at hx297_0); (try rw [show 0 * 4 = 0 from rfl] at hx297_0); (try rw [Addr.add_zero'] at hx297_0); (try rw [show ((0 : Int)).toNat = 0 from rfl] at hx297_1); (try rw [show 0 * 4 = 0 from rfl] at hx297_1); (try rw [Addr.add_zero'] at hx297_1); (try rw [show ((0 : Int)).toNat = 0 from rfl] at hx297_2); (try rw [show 0 * 4 = 0 from rfl] at hx297_2); (try rw [Addr.add_zero'] at hx297_2); (try rw [show ((0 : Int)).toNat = 0 from rfl] at hx297_3); (try rw [show 0 * 4 = 0 from rfl] at hx297_3); (try rw [Addr.add_zero'] at hx297_3); replace hx297_0 := (HB.out.cell (World.block_lt_of_cell? w _ hx297_0)).trans hx297_0; replace hx297_1 := (HB.out.cell (World.block_lt_of_cell? w _ hx297_1)).trans hx297_1; replace hx297_2 := (HB.out.cell (World.block_lt_of_cell? w _ hx297_2)).trans hx297_2; replace hx297_3 := (HB.out.cell (World.block_lt_of_cell? w _ hx297_3)).trans hx297_3; have HR297_3 := Aside0.mk hi297_3; have HC297_3 := Aside0.mk hl297_3; clear hi297_3 hl297_3; replace p297 := eq_true p297; replace q297 := eq_true q297; have ea_ := Option.some.inj (hx296_3.symm.trans hx297_3); injection ea_ with ea_ en_ ec_; subst ea_; subst ec_; clear en_)); try go_wp2_with (first | (go_at_call 54; (with_reducible refine (impl_in.calls (l0.length : Int) 1 200 true _ A3.out).mono ?_); rintro e w' ⟨rfl, ⟨nd, rfl⟩⟩; (try first | exact aZ1 | exact aZ2); have p296 : 0 ≤ (0 : Int) := (by omega); have q296 : 0 < (l0.length : Int) := aD; obtain ⟨ad296, A296_3, c296_3, e296, hx296_0, hx296_1, hx296_2, hx296_3, hl296_3, hi296_3⟩ := at_T74 HR0.out 0 p296 q296; cases e296; have qi296 : (0 < l0.length) = True := eq_true (by omega); (try rw [show ((0 : Int)).toNat = 0 from rfl] at hx296_0); (try rw [show 0 * 4 = 0 from rfl] at hx296_0); (try rw [Addr.add_zero'] at hx296_0); (try rw [show ((0 : Int)).toNat = 0 from rfl] at hx296_1); (try rw [show 0 * 4 = 0 from rfl] at hx296_1); (try rw [Addr.add_zero'] at hx296_1); (try rw [show ((0 : Int)).toNat = 0 from rfl] at hx296_2); (try rw [show 0 * 4 = 0 from rfl] at hx296_2); (try rw [Addr.add_zero'] at hx296_2); (try rw [show ((0 : Int)).toNat = 0 from rfl] at hx296_3); (try rw [show 0 * 4 = 0 from rfl] at hx296_3); (try rw [Addr.add_zero'] at hx296_3); replace hx296_0 := (HB.out.cell (World.block_lt_of_cell? w _ hx296_0)).trans hx296_0; replace hx296_1 := (HB.out.cell (World.block_lt_of_cell? w _ hx296_1)).trans hx296_1; replace hx296_2 := (HB.out.cell (World.block_lt_of_cell? w _ hx296_2)).trans hx296_2; replace hx296_3 := (HB.out.cell (World.block_lt_of_cell? w _ hx296_3)).trans hx296_3; have HR296_3 := Aside0.mk hi296_3; have HC296_3 := Aside0.mk hl296_3; clear hi296_3 hl296_3; replace p296 := eq_true p296; replace q296 := eq_true q296; have p297 : 0 ≤ (0 : Int) := (by omega); have q297 : 0 < (l0.length : Int) := aD; obtain ⟨ad297, A297_3, c297_3, e297, hx297_0, hx297_1, hx297_2, hx297_3, hl297_3, hi297_3⟩ := at_T74 HR0.out 0 p297 q297; obtain rfl : ad296 = ad297 := (by injection e297); have qi297 : (0 < l0.length) = True := eq_true (by omega); (try rw [show ((0 : Int)).toNat = 0 from rfl] at hx297_0); (try rw [show 0 * 4 = 0 from rfl] at hx297_0); (try rw [Addr.add_zero'] at hx297_0); (try rw [show ((0 : Int)).toNat = 0 from rfl] at hx297_1); (try rw [show 0 * 4 = 0 from rfl] at hx297_1); (try rw [Addr.add_zero'] at hx297_1); (try rw [show ((0 : Int)).toNat = 0 from rfl] at hx297_2); (try rw [show 0 * 4 = 0 from rfl] at hx297_2); (try rw [Addr.add_zero'] at hx297_2); (try rw [show ((0 : Int)).toNat = 0 from rfl] at hx297_3); (try rw [show 0 * 4 = 0 from rfl] at hx297_3); (try rw [Addr.add_zero'] at hx297_3); replace hx297_0 := (HB.out.cell (World.block_lt_of_cell? w _ hx297_0)).trans hx297_0; replace hx297_1 := (HB.out.cell (World.block_lt_of_cell? w _ hx297_1)).trans hx297_1; replace hx297_2 := (HB.out.cell (World.block_lt_of_cell? w _ hx297_2)).trans hx297_2; replace hx297_3 := (HB.out.cell (World.block_lt_of_cell? w _ hx297_3)).trans hx297_3; have HR297_3 := Aside0.mk hi297_3; have HC297_3 := Aside0.mk hl297_3; clear hi297_3 hl297_3; replace p297 := eq_true p297; replace q297 := eq_true q297; have ea_ := Option.some.inj (hx296_3.symm.trans hx297_3); injection ea_ with ea_ en_ ec_; subst ea_; subst ec_; clear en_)))
  go_meet
  case rel => exact ⟨_, ((((rd_T74 l0 0).f1).toList == ([] : List UInt8))), (by first | rfl | (simp only [aX1, aX2]; rfl) | (simp; done) | (simp [*]; done)), H', ⟨by first | omega | exact Nat.le_refl _⟩, ⟨aB⟩⟩
 case rest =>
  clear HC2
  try clear c1
  try clear c2
  try clear p2
  try clear q2
  try clear hx2
  try clear qi2
  try clear c4
  try clear c5
  try clear c5b0
  try clear c5b1
  try clear c6
  try clear c6b0
  try clear c6b1
  try clear hx296_0
  try clear hx296_1
  try clear hx296_2
  try clear hx296_3
  try clear hx297_0
  try clear hx297_1
  try clear hx297_2
  try clear hx297_3
  try clear p296
  try clear p297
  try clear q296
  try clear q297
  obtain ⟨kq, x24_1, rfl, HA, HJ1, HB⟩ := hcut
  cases kq with
  | zero => exact absurd HA.out (by simp [impl_DocOk.j0])
  | succ kj1 =>
   have H := HA.out
   clear HA
   simp only [impl_DocOk.j0] at H
   by_cases c7 : x24_1 = true
   ·subst c7
    have H1 : (some false) = some r := by rw [if_pos rfl] at H; exact H
    clear H
    have H := H1
    clear H1
    obtain rfl := Option.some.inj H
    go_wp2
    repeat (go_quiet (fail); try go_wp2)
    go_ret
    exact ⟨by first | rfl | (simp only [aX1, aX2]; rfl) | (simp [*] <;> rfl), aB⟩
   replace c7 := Bool.eq_false_iff.mpr c7
   subst c7
   have H1 : (impl_DocOk.l0 kj1 l0 0 (([] : List Int)) l0 (l0.length : Int) 0) = some r := by rw [if_neg (show ¬ (false = true) by decide)] at H; exact H
   clear H
   have H := H1
   clear H1
   obtain ⟨y298, hy298⟩ : ∃ y_ : List Int, y_ = (([] : List Int)) := ⟨_, rfl⟩
   replace H : (impl_DocOk.l0 kj1 l0 0 y298 l0 (l0.length : Int) 0) = some r := by first | (rw [hy298]; with_reducible exact H) | (have H2_ := (Option.bind_some _ _).symm.trans H; rw [hy298]; with_reducible exact H2_) | (have H2_ := (Option.bind_some _ _).symm.trans H; with_reducible exact H2_) | with_reducible exact H | (rw [hy298]; exact H) | exact H
   have Ny298 := Aside0.mk hy298
   clear hy298
   have H' := Aside0.mk H
   clear H
   go_wp2_with (first | ((with_reducible refine gate_dst (N := 25) rfl ?_); (try (refine gate_guard (by rfl) ?_; dsimp only)); refine Kd.R_lit (Kd.int .i64) _ 2 ?hg (N := 25) ?hd (xs := ([] : List Int)) (inner := []) (ok := fun _ => True) (okp := fun _ => True) ?hr ?hp (fun _ hk => hk) trivial (Below.refl _ _) (Nat.le_refl _) (by simp) ?_; (case hd => rfl); (case hg => rfl); (case hr => first | (go_simp; done) | (go_simp; rfl)); (case hp => exact (Reps.none _ _)); intro v299 w8 ho9 hb hg_ hnew_; clear hg_ hnew_; (first | rw [← Ny298.out] at ho9 | (simp only [Int.reduceToNat] at ho9; rw [← Ny298.out] at ho9)); have n0_ := Aside0.mk (Kd.R_lower ho9 (below_size aB)); have n1_ := Aside0.mk (below_step aB hb); clear HB; have HO300 := n0_; have HB := n1_; clear n0_ n1_; clear hb ho9))
   repeat (go_quiet (first | ((with_reducible refine gate_dst (N := 25) rfl ?_); (try (refine gate_guard (by rfl) ?_; dsimp only)); refine Kd.R_lit (Kd.int .i64) _ 2 ?hg (N := 25) ?hd (xs := ([] : List Int)) (inner := []) (ok := fun _ => True) (okp := fun _ => True) ?hr ?hp (fun _ hk => hk) trivial (Below.refl _ _) (Nat.le_refl _) (by simp) ?_; (case hd => rfl); (case hg => rfl); (case hr => first | (go_simp; done) | (go_simp; rfl)); (case hp => exact (Reps.none _ _)); intro v299 w8 ho9 hb hg_ hnew_; clear hg_ hnew_; (first | rw [← Ny298.out] at ho9 | (simp only [Int.reduceToNat] at ho9; rw [← Ny298.out] at ho9)); have n0_ := Aside0.mk (Kd.R_lower ho9 (below_size aB)); have n1_ := Aside0.mk (below_step aB hb); clear HB; have HO300 := n0_; have HB := n1_; clear n0_ n1_; clear hb ho9)); try go_wp2_with (first | ((with_reducible refine gate_dst (N := 25) rfl ?_); (try (refine gate_guard (by rfl) ?_; dsimp only)); refine Kd.R_lit (Kd.int .i64) _ 2 ?hg (N := 25) ?hd (xs := ([] : List Int)) (inner := []) (ok := fun _ => True) (okp := fun _ => True) ?hr ?hp (fun _ hk => hk) trivial (Below.refl _ _) (Nat.le_refl _) (by simp) ?_; (case hd => rfl); (case hg => rfl); (case hr => first | (go_simp; done) | (go_simp; rfl)); (case hp => exact (Reps.none _ _)); intro v299 w8 ho9 hb hg_ hnew_; clear hg_ hnew_; (first | rw [← Ny298.out] at ho9 | (simp only [Int.reduceToNat] at ho9; rw [← Ny298.out] at ho9)); have n0_ := Aside0.mk (Kd.R_lower ho9 (below_size aB)); have n1_ := Aside0.mk (below_step aB hb); clear HB; have HO300 := n0_; have HB := n1_; clear n0_ n1_; clear hb ho9)))
   go_loopg [3, 4, 28] kj1 (fun kq v3 v4 v28 w' => ∃ (x3_2 : Int) (x4_2 : List Int) (x28_2 : Int), v3 = .int .i64 x3_2 ∧ v28 = .int .i64 x28_2 ∧ Aside0 (impl_DocOk.l0 kq l0 x3_2 x4_2 l0 (l0.length : Int) x28_2 = some r) ∧ Aside0 (kq ≤ kj1) ∧ Aside0 (Kd.R (Kd.int .i64) 2 w' w.heap.size (fun _ => True) v4 x4_2) ∧ Aside0 (Below w.heap.size w w'))
   case atStart => exact ⟨(0), (y298), (0), aR, aR, H', ⟨Nat.le_refl _⟩, ⟨aP HO300.out⟩, ⟨aB⟩⟩
   case round =>
    clear H'
    try clear c1
    try clear c2
    try clear p2
    try clear q2
    try clear hx2
    try clear qi2
    try clear c4
    try clear c5
    try clear c5b0
    try clear c5b1
    try clear c6
    try clear c6b0
    try clear c6b1
    try clear c7
    try clear hx296_0
    try clear hx296_1
    try clear hx296_2
    try clear hx296_3
    try clear hx297_0
    try clear hx297_1
    try clear hx297_2
    try clear hx297_3
    try clear p2
    try clear p296
    try clear p297
    try clear q2
    try clear q296
    try clear q297
    obtain ⟨x3_2, x4_2, x28_2, rfl, rfl, HA, HK2, HO_4, HB⟩ := hrel
    cases gk with
    | zero => exact absurd HA.out (by simp [impl_DocOk.l0])
    | succ k2 =>
     have H := HA.out
     clear HA
     simp only [impl_DocOk.l0] at H
     by_cases c10 : x28_2 < (l0.length : Int)
     rotate_left
     ·rw [if_neg c10] at H
      have c10b0 : decide (x28_2 < (l0.length : Int)) = false := decide_eq_false c10
      clear c10
      obtain rfl := Option.some.inj H
      go_wp2
      repeat (go_quiet (fail); try go_wp2)
      go_ret
      exact ⟨by first | rfl | (simp only [aX1, aX2]; rfl) | (simp [*] <;> rfl), aB⟩
     rw [if_pos c10] at H
     have c10b0 : decide (x28_2 < (l0.length : Int)) = true := decide_eq_true c10
     clear c10
     by_cases c11 : 0 ≤ x28_2
     rotate_left
     ·rw [if_neg c11] at H
      exact absurd H (by simp)
     rw [if_pos c11] at H
     have c11b0 : decide (0 ≤ x28_2) = true := decide_eq_true c11
     clear c11
     by_cases c12 : x28_2 < (l0.length : Int)
     rotate_left
     ·rw [if_neg c12] at H
      exact absurd H (by simp)
     rw [if_pos c12] at H
     have c12b0 : decide (x28_2 < (l0.length : Int)) = true := decide_eq_true c12
     clear c12
     replace H := Option.bind_eq_some_iff.mp H
     obtain ⟨t303, A130, H⟩ := H
     replace H : (if t303 = true then ((impl_Item_bytes.f k2 ((rd_T74 l0 x28_2).f0) ((rd_T74 l0 x28_2).f1) ((rd_T74 l0 x28_2).f2) ((rd_T74 l0 x28_2).f3)).bind fun t304 => (impl_DocOk.l1 k2 l0 (wrap64 (x3_2 + t304)) x4_2 x28_2 l0 (l0.length : Int) x28_2 ((rd_T74 l0 x28_2).f0) ((rd_T74 l0 x28_2).f1) ((rd_T74 l0 x28_2).f2) ((rd_T74 l0 x28_2).f3))) else (some false)) = some r := H
     have A13 := Aside0.mk A130
     clear A130
     by_cases c14 : t303 = true
     rotate_left
     ·replace c14 := Bool.eq_false_iff.mpr c14
      subst c14
      have H1 : (some false) = some r := by rw [if_neg (show ¬ (false = true) by decide)] at H; exact H
      clear H
      have H := H1
      clear H1
      obtain rfl := Option.some.inj H
      have p301 : 0 ≤ (x28_2 : Int) := aD
      have q301 : x28_2 < (l0.length : Int) := aD
      obtain ⟨ad301, A301_3, c301_3, e301, hx301_0, hx301_1, hx301_2, hx301_3, hl301_3, hi301_3⟩ := at_T74 HR0.out x28_2 p301 q301
      cases e301
      replace hx301_0 := (HB.out.cell (World.block_lt_of_cell? w _ hx301_0)).trans hx301_0
      replace hx301_1 := (HB.out.cell (World.block_lt_of_cell? w _ hx301_1)).trans hx301_1
      replace hx301_2 := (HB.out.cell (World.block_lt_of_cell? w _ hx301_2)).trans hx301_2
      replace hx301_3 := (HB.out.cell (World.block_lt_of_cell? w _ hx301_3)).trans hx301_3
      have HR301_3 := Aside0.mk hi301_3
      have HC301_3 := Aside0.mk hl301_3
      clear hi301_3 hl301_3
      replace p301 := eq_true p301
      replace q301 := eq_true q301
      go_wp2_with (first | ((with_reducible refine gate_dst (N := 6) rfl ?_); (try (refine gate_guard (by rfl) ?_; dsimp only)); refine box_event ?hg (N := 6) ?hd (cs := #[.int .i64 0, .string (⟨#[]⟩ : ByteArray), .string (⟨#[]⟩ : ByteArray), .slice none 0 0]) (t := 74) ?hr ?_; (case hd => rfl); (case hg => rfl); (case hr => first | (go_simp; done) | (go_simp; rfl)); intro gb302 hg w57 hbox hb; have n0_ := Aside0.mk (Kd.R_below (aP HO_4.out) hb); have n1_ := Aside0.mk (below_step aB hb); have n2_ := Aside0.mk (hbox); have n3_ := Aside0.mk ((by rw [hg]; exact (below_size aB) : w.heap.size ≤ gb302)); have n4_ := Aside0.mk ((by rw [hg]; exact (below_size aB) : w.heap.size ≤ gb302)); clear HO_4; clear HB; have HO_4 := n0_; have HB := n1_; have BK302 := n2_; have GW302 := n3_; have GE302 := n4_; clear n0_ n1_ n2_ n3_ n4_; clear hb hbox hg; have hcz58_0 : w57.cell? ⟨gb302, 0, none⟩ = some (.int .i64 0) := (blk_cell BK302.out 0).trans rfl; have hcz58_1 : w57.cell? ⟨gb302, 1, none⟩ = some (.string (⟨#[]⟩ : ByteArray)) := (blk_cell BK302.out 1).trans rfl; have hcz58_2 : w57.cell? ⟨gb302, 2, none⟩ = some (.string (⟨#[]⟩ : ByteArray)) := (blk_cell BK302.out 2).trans rfl; have hcz58_3 : w57.cell? ⟨gb302, 3, none⟩ = some (.slice none 0 0) := (blk_cell BK302.out 3).trans rfl; have hfz58_0 := blk_frozen BK302.out 0; have hfz58_1 := blk_frozen BK302.out 1; have hfz58_2 := blk_frozen BK302.out 2; have hfz58_3 := blk_frozen BK302.out 3) | ((with_reducible refine gate_store (t := 74) (p := 6) rfl ?_); (try (rw [drewN_self w57]; generalize hq_ : World.drewN w57 _ = w57; have n0_ := Aside0.mk (Kd.R_at hq_ HO_4.out); have n1_ := Aside0.mk (blk_at hq_ BK302.out); have n2_ := Aside0.mk (below_at hq_ HB.out); clear hq_ HO_4 BK302 HB; have HO_4 := n0_; have BK302 := n1_; have HB := n2_; clear n0_ n1_ n2_)); refine store_event (t := 74) (p := 6) (v := ?vo_w59) (w1 := ((((w57.setCell ⟨gb302, 0, none⟩ (.int .i64 ((rd_T74 l0 x28_2).f0))).setCell ⟨gb302, 1, none⟩ (.string ((rd_T74 l0 x28_2).f1))).setCell ⟨gb302, 2, none⟩ (.string ((rd_T74 l0 x28_2).f2))).setCell ⟨gb302, 3, none⟩ (.slice A301_3 ((rd_T74 l0 x28_2).f3).length c301_3))) ?hg ?ho ?hn ?hr ?_; (case ho => rfl); (case hg => rfl); (case hn => rfl); (case hr => first | (go_simp; done) | (go_simp; rfl)); intro w59 hw; have n0_ : Aside0 (Kd.R (Kd.int .i64) 2 w59 w.heap.size (fun _ => True) u4 x4_2) := ⟨(by rw [hw]; exact (by (with_reducible repeat (first | apply Kd.R_alloc | apply Kd.R_drewN | apply Kd.R_drew)); exact Kd.R_mono (Kd.R_far (p := ⟨gb302, 3, none⟩) (Kd.R_far (p := ⟨gb302, 2, none⟩) (Kd.R_far (p := ⟨gb302, 1, none⟩) (Kd.R_far (p := ⟨gb302, 0, none⟩) (Kd.R_types HO_4.out BK302.out (by decide)) (fun _ hk => hk.2) (.int .i64 ((rd_T74 l0 x28_2).f0))) (fun _ hk => hk.2) (.string ((rd_T74 l0 x28_2).f1))) (fun _ hk => hk.2) (.string ((rd_T74 l0 x28_2).f2))) (fun _ hk => hk.2) (.slice A301_3 ((rd_T74 l0 x28_2).f3).length c301_3)) (fun _ hk => trivial)))⟩; have n1_ : Aside0 (w59.heap[gb302]? = some (.cells #[.int .i64 ((rd_T74 l0 x28_2).f0), .string ((rd_T74 l0 x28_2).f1), .string ((rd_T74 l0 x28_2).f2), .slice A301_3 ((rd_T74 l0 x28_2).f3).length c301_3] 74 (0, 0))) := ⟨(by rw [hw]; exact (by (with_reducible repeat (first | apply d1 | apply d2 | apply d3)); refine blk_put (cs := #[.int .i64 ((rd_T74 l0 x28_2).f0), .string ((rd_T74 l0 x28_2).f1), .string ((rd_T74 l0 x28_2).f2), .slice none 0 0]) ?_ 3 _ rfl; (with_reducible repeat (first | apply d1 | apply d2 | apply d3)); refine blk_put (cs := #[.int .i64 ((rd_T74 l0 x28_2).f0), .string ((rd_T74 l0 x28_2).f1), .string (⟨#[]⟩ : ByteArray), .slice none 0 0]) ?_ 2 _ rfl; (with_reducible repeat (first | apply d1 | apply d2 | apply d3)); refine blk_put (cs := #[.int .i64 ((rd_T74 l0 x28_2).f0), .string (⟨#[]⟩ : ByteArray), .string (⟨#[]⟩ : ByteArray), .slice none 0 0]) ?_ 1 _ rfl; (with_reducible repeat (first | apply d1 | apply d2 | apply d3)); refine blk_put (cs := #[.int .i64 0, .string (⟨#[]⟩ : ByteArray), .string (⟨#[]⟩ : ByteArray), .slice none 0 0]) ?_ 0 _ rfl; (with_reducible repeat (first | apply d1 | apply d2 | apply d3)); exact BK302.out))⟩; have n2_ : Aside0 (Below w.heap.size w w59) := ⟨(by rw [hw]; exact aE)⟩; clear hw; clear HO_4; clear BK302; clear HB; have HO_4 := n0_; have BK302 := n1_; have HB := n2_; clear n0_ n1_ n2_; have hcz60_0 : w59.cell? ⟨gb302, 0, none⟩ = some (.int .i64 ((rd_T74 l0 x28_2).f0)) := (blk_cell BK302.out 0).trans rfl; have hcz60_1 : w59.cell? ⟨gb302, 1, none⟩ = some (.string ((rd_T74 l0 x28_2).f1)) := (blk_cell BK302.out 1).trans rfl; have hcz60_2 : w59.cell? ⟨gb302, 2, none⟩ = some (.string ((rd_T74 l0 x28_2).f2)) := (blk_cell BK302.out 2).trans rfl; have hcz60_3 : w59.cell? ⟨gb302, 3, none⟩ = some (.slice A301_3 ((rd_T74 l0 x28_2).f3).length c301_3) := (blk_cell BK302.out 3).trans rfl; have hfz60_0 := blk_frozen BK302.out 0; have hfz60_1 := blk_frozen BK302.out 1; have hfz60_2 := blk_frozen BK302.out 2; have hfz60_3 := blk_frozen BK302.out 3) | (go_at_call 55; (with_reducible refine (impl_Item_isGood.calls k2 ((rd_T74 l0 x28_2).f0) ((rd_T74 l0 x28_2).f1) ((rd_T74 l0 x28_2).f2) _ _ ((rd_T74 l0 x28_2).f3) false _ ?side1 ?side2 ?side3 A13.out).mono ?_); (case side1 => exact GL.below HGL.out aE); (case side2 => repeat (first | exact (Kd.C_below HR301_3.out HB.out) | (with_reducible refine Kd.C_alloc ?_ _) | (with_reducible refine Kd.C_drewN ?_ _) | (with_reducible refine Kd.C_drew ?_))); (case side3 => exact HC301_3.out); rintro e w61 ⟨rfl, hb⟩; have n0_ := Aside0.mk (Kd.R_below (aP HO_4.out) hb); have n1_ := Aside0.mk (blk_below (g := gb302) (o := .cells #[.int .i64 ((rd_T74 l0 x28_2).f0), .string ((rd_T74 l0 x28_2).f1), .string ((rd_T74 l0 x28_2).f2), .slice A301_3 ((rd_T74 l0 x28_2).f3).length c301_3] 74 (0, 0)) (aP BK302.out) hb); have n2_ := Aside0.mk (below_step aE hb); clear HO_4; clear BK302; clear HB; have HO_4 := n0_; have BK302 := n1_; have HB := n2_; clear n0_ n1_ n2_; (try clear hb); (try clear hb2); (try clear hk); (try clear hi)))
      repeat (go_quiet (first | ((with_reducible refine gate_dst (N := 6) rfl ?_); (try (refine gate_guard (by rfl) ?_; dsimp only)); refine box_event ?hg (N := 6) ?hd (cs := #[.int .i64 0, .string (⟨#[]⟩ : ByteArray), .string (⟨#[]⟩ : ByteArray), .slice none 0 0]) (t := 74) ?hr ?_; (case hd => rfl); (case hg => rfl); (case hr => first | (go_simp; done) | (go_simp; rfl)); intro gb302 hg w57 hbox hb; have n0_ := Aside0.mk (Kd.R_below (aP HO_4.out) hb); have n1_ := Aside0.mk (below_step aB hb); have n2_ := Aside0.mk (hbox); have n3_ := Aside0.mk ((by rw [hg]; exact (below_size aB) : w.heap.size ≤ gb302)); have n4_ := Aside0.mk ((by rw [hg]; exact (below_size aB) : w.heap.size ≤ gb302)); clear HO_4; clear HB; have HO_4 := n0_; have HB := n1_; have BK302 := n2_; have GW302 := n3_; have GE302 := n4_; clear n0_ n1_ n2_ n3_ n4_; clear hb hbox hg; have hcz58_0 : w57.cell? ⟨gb302, 0, none⟩ = some (.int .i64 0) := (blk_cell BK302.out 0).trans rfl; have hcz58_1 : w57.cell? ⟨gb302, 1, none⟩ = some (.string (⟨#[]⟩ : ByteArray)) := (blk_cell BK302.out 1).trans rfl; have hcz58_2 : w57.cell? ⟨gb302, 2, none⟩ = some (.string (⟨#[]⟩ : ByteArray)) := (blk_cell BK302.out 2).trans rfl; have hcz58_3 : w57.cell? ⟨gb302, 3, none⟩ = some (.slice none 0 0) := (blk_cell BK302.out 3).trans rfl; have hfz58_0 := blk_frozen BK302.out 0; have hfz58_1 := blk_frozen BK302.out 1; have hfz58_2 := blk_frozen BK302.out 2; have hfz58_3 := blk_frozen BK302.out 3) | ((with_reducible refine gate_store (t := 74) (p := 6) rfl ?_); (try (rw [drewN_self w57]; generalize hq_ : World.drewN w57 _ = w57; have n0_ := Aside0.mk (Kd.R_at hq_ HO_4.out); have n1_ := Aside0.mk (blk_at hq_ BK302.out); have n2_ := Aside0.mk (below_at hq_ HB.out); clear hq_ HO_4 BK302 HB; have HO_4 := n0_; have BK302 := n1_; have HB := n2_; clear n0_ n1_ n2_)); refine store_event (t := 74) (p := 6) (v := ?vo_w59) (w1 := ((((w57.setCell ⟨gb302, 0, none⟩ (.int .i64 ((rd_T74 l0 x28_2).f0))).setCell ⟨gb302, 1, none⟩ (.string ((rd_T74 l0 x28_2).f1))).setCell ⟨gb302, 2, none⟩ (.string ((rd_T74 l0 x28_2).f2))).setCell ⟨gb302, 3, none⟩ (.slice A301_3 ((rd_T74 l0 x28_2).f3).length c301_3))) ?hg ?ho ?hn ?hr ?_; (case ho => rfl); (case hg => rfl); (case hn => rfl); (case hr => first | (go_simp; done) | (go_simp; rfl)); intro w59 hw; have n0_ : Aside0 (Kd.R (Kd.int .i64) 2 w59 w.heap.size (fun _ => True) u4 x4_2) := ⟨(by rw [hw]; exact (by (with_reducible repeat (first | apply Kd.R_alloc | apply Kd.R_drewN | apply Kd.R_drew)); exact Kd.R_mono (Kd.R_far (p := ⟨gb302, 3, none⟩) (Kd.R_far (p := ⟨gb302, 2, none⟩) (Kd.R_far (p := ⟨gb302, 1, none⟩) (Kd.R_far (p := ⟨gb302, 0, none⟩) (Kd.R_types HO_4.out BK302.out (by decide)) (fun _ hk => hk.2) (.int .i64 ((rd_T74 l0 x28_2).f0))) (fun _ hk => hk.2) (.string ((rd_T74 l0 x28_2).f1))) (fun _ hk => hk.2) (.string ((rd_T74 l0 x28_2).f2))) (fun _ hk => hk.2) (.slice A301_3 ((rd_T74 l0 x28_2).f3).length c301_3)) (fun _ hk => trivial)))⟩; have n1_ : Aside0 (w59.heap[gb302]? = some (.cells #[.int .i64 ((rd_T74 l0 x28_2).f0), .string ((rd_T74 l0 x28_2).f1), .string ((rd_T74 l0 x28_2).f2), .slice A301_3 ((rd_T74 l0 x28_2).f3).length c301_3] 74 (0, 0))) := ⟨(by rw [hw]; exact (by (with_reducible repeat (first | apply d1 | apply d2 | apply d3)); refine blk_put (cs := #[.int .i64 ((rd_T74 l0 x28_2).f0), .string ((rd_T74 l0 x28_2).f1), .string ((rd_T74 l0 x28_2).f2), .slice none 0 0]) ?_ 3 _ rfl; (with_reducible repeat (first | apply d1 | apply d2 | apply d3)); refine blk_put (cs := #[.int .i64 ((rd_T74 l0 x28_2).f0), .string ((rd_T74 l0 x28_2).f1), .string (⟨#[]⟩ : ByteArray), .slice none 0 0]) ?_ 2 _ rfl; (with_reducible repeat (first | apply d1 | apply d2 | apply d3)); refine blk_put (cs := #[.int .i64 ((rd_T74 l0 x28_2).f0), .string (⟨#[]⟩ : ByteArray), .string (⟨#[]⟩ : ByteArray), .slice none 0 0]) ?_ 1 _ rfl; (with_reducible repeat (first | apply d1 | apply d2 | apply d3)); refine blk_put (cs := #[.int .i64 0, .string (⟨#[]⟩ : ByteArray), .string (⟨#[]⟩ : ByteArray), .slice none 0 0]) ?_ 0 _ rfl; (with_reducible repeat (first | apply d1 | apply d2 | apply d3)); exact BK302.out))⟩; have n2_ : Aside0 (Below w.heap.size w w59) := ⟨(by rw [hw]; exact aE)⟩; clear hw; clear HO_4; clear BK302; clear HB; have HO_4 := n0_; have BK302 := n1_; have HB := n2_; clear n0_ n1_ n2_; have hcz60_0 : w59.cell? ⟨gb302, 0, none⟩ = some (.int .i64 ((rd_T74 l0 x28_2).f0)) := (blk_cell BK302.out 0).trans rfl; have hcz60_1 : w59.cell? ⟨gb302, 1, none⟩ = some (.string ((rd_T74 l0 x28_2).f1)) := (blk_cell BK302.out 1).trans rfl; have hcz60_2 : w59.cell? ⟨gb302, 2, none⟩ = some (.string ((rd_T74 l0 x28_2).f2)) := (blk_cell BK302.out 2).trans rfl; have hcz60_3 : w59.cell? ⟨gb302, 3, none⟩ = some (.slice A301_3 ((rd_T74 l0 x28_2).f3).length c301_3) := (blk_cell BK302.out 3).trans rfl; have hfz60_0 := blk_frozen BK302.out 0; have hfz60_1 := blk_frozen BK302.out 1; have hfz60_2 := blk_frozen BK302.out 2; have hfz60_3 := blk_frozen BK302.out 3) | (go_at_call 55; (with_reducible refine (impl_Item_isGood.calls k2 ((rd_T74 l0 x28_2).f0) ((rd_T74 l0 x28_2).f1) ((rd_T74 l0 x28_2).f2) _ _ ((rd_T74 l0 x28_2).f3) false _ ?side1 ?side2 ?side3 A13.out).mono ?_); (case side1 => exact GL.below HGL.out aE); (case side2 => repeat (first | exact (Kd.C_below HR301_3.out HB.out) | (with_reducible refine Kd.C_alloc ?_ _) | (with_reducible refine Kd.C_drewN ?_ _) | (with_reducible refine Kd.C_drew ?_))); (case side3 => exact HC301_3.out); rintro e w61 ⟨rfl, hb⟩; have n0_ := Aside0.mk (Kd.R_below (aP HO_4.out) hb); have n1_ := Aside0.mk (blk_below (g := gb302) (o := .cells #[.int .i64 ((rd_T74 l0 x28_2).f0), .string ((rd_T74 l0 x28_2).f1), .string ((rd_T74 l0 x28_2).f2), .slice A301_3 ((rd_T74 l0 x28_2).f3).length c301_3] 74 (0, 0)) (aP BK302.out) hb); have n2_ := Aside0.mk (below_step aE hb); clear HO_4; clear BK302; clear HB; have HO_4 := n0_; have BK302 := n1_; have HB := n2_; clear n0_ n1_ n2_; (try clear hb); (try clear hb2); (try clear hk); (try clear hi))); try go_wp2_with (first | ((with_reducible refine gate_dst (N := 6) rfl ?_); (try (refine gate_guard (by rfl) ?_; dsimp only)); refine box_event ?hg (N := 6) ?hd (cs := #[.int .i64 0, .string (⟨#[]⟩ : ByteArray), .string (⟨#[]⟩ : ByteArray), .slice none 0 0]) (t := 74) ?hr ?_; (case hd => rfl); (case hg => rfl); (case hr => first | (go_simp; done) | (go_simp; rfl)); intro gb302 hg w57 hbox hb; have n0_ := Aside0.mk (Kd.R_below (aP HO_4.out) hb); have n1_ := Aside0.mk (below_step aB hb); have n2_ := Aside0.mk (hbox); have n3_ := Aside0.mk ((by rw [hg]; exact (below_size aB) : w.heap.size ≤ gb302)); have n4_ := Aside0.mk ((by rw [hg]; exact (below_size aB) : w.heap.size ≤ gb302)); clear HO_4; clear HB; have HO_4 := n0_; have HB := n1_; have BK302 := n2_; have GW302 := n3_; have GE302 := n4_; clear n0_ n1_ n2_ n3_ n4_; clear hb hbox hg; have hcz58_0 : w57.cell? ⟨gb302, 0, none⟩ = some (.int .i64 0) := (blk_cell BK302.out 0).trans rfl; have hcz58_1 : w57.cell? ⟨gb302, 1, none⟩ = some (.string (⟨#[]⟩ : ByteArray)) := (blk_cell BK302.out 1).trans rfl; have hcz58_2 : w57.cell? ⟨gb302, 2, none⟩ = some (.string (⟨#[]⟩ : ByteArray)) := (blk_cell BK302.out 2).trans rfl; have hcz58_3 : w57.cell? ⟨gb302, 3, none⟩ = some (.slice none 0 0) := (blk_cell BK302.out 3).trans rfl; have hfz58_0 := blk_frozen BK302.out 0; have hfz58_1 := blk_frozen BK302.out 1; have hfz58_2 := blk_frozen BK302.out 2; have hfz58_3 := blk_frozen BK302.out 3) | ((with_reducible refine gate_store (t := 74) (p := 6) rfl ?_); (try (rw [drewN_self w57]; generalize hq_ : World.drewN w57 _ = w57; have n0_ := Aside0.mk (Kd.R_at hq_ HO_4.out); have n1_ := Aside0.mk (blk_at hq_ BK302.out); have n2_ := Aside0.mk (below_at hq_ HB.out); clear hq_ HO_4 BK302 HB; have HO_4 := n0_; have BK302 := n1_; have HB := n2_; clear n0_ n1_ n2_)); refine store_event (t := 74) (p := 6) (v := ?vo_w59) (w1 := ((((w57.setCell ⟨gb302, 0, none⟩ (.int .i64 ((rd_T74 l0 x28_2).f0))).setCell ⟨gb302, 1, none⟩ (.string ((rd_T74 l0 x28_2).f1))).setCell ⟨gb302, 2, none⟩ (.string ((rd_T74 l0 x28_2).f2))).setCell ⟨gb302, 3, none⟩ (.slice A301_3 ((rd_T74 l0 x28_2).f3).length c301_3))) ?hg ?ho ?hn ?hr ?_; (case ho => rfl); (case hg => rfl); (case hn => rfl); (case hr => first | (go_simp; done) | (go_simp; rfl)); intro w59 hw; have n0_ : Aside0 (Kd.R (Kd.int .i64) 2 w59 w.heap.size (fun _ => True) u4 x4_2) := ⟨(by rw [hw]; exact (by (with_reducible repeat (first | apply Kd.R_alloc | apply Kd.R_drewN | apply Kd.R_drew)); exact Kd.R_mono (Kd.R_far (p := ⟨gb302, 3, none⟩) (Kd.R_far (p := ⟨gb302, 2, none⟩) (Kd.R_far (p := ⟨gb302, 1, none⟩) (Kd.R_far (p := ⟨gb302, 0, none⟩) (Kd.R_types HO_4.out BK302.out (by decide)) (fun _ hk => hk.2) (.int .i64 ((rd_T74 l0 x28_2).f0))) (fun _ hk => hk.2) (.string ((rd_T74 l0 x28_2).f1))) (fun _ hk => hk.2) (.string ((rd_T74 l0 x28_2).f2))) (fun _ hk => hk.2) (.slice A301_3 ((rd_T74 l0 x28_2).f3).length c301_3)) (fun _ hk => trivial)))⟩; have n1_ : Aside0 (w59.heap[gb302]? = some (.cells #[.int .i64 ((rd_T74 l0 x28_2).f0), .string ((rd_T74 l0 x28_2).f1), .string ((rd_T74 l0 x28_2).f2), .slice A301_3 ((rd_T74 l0 x28_2).f3).length c301_3] 74 (0, 0))) := ⟨(by rw [hw]; exact (by (with_reducible repeat (first | apply d1 | apply d2 | apply d3)); refine blk_put (cs := #[.int .i64 ((rd_T74 l0 x28_2).f0), .string ((rd_T74 l0 x28_2).f1), .string ((rd_T74 l0 x28_2).f2), .slice none 0 0]) ?_ 3 _ rfl; (with_reducible repeat (first | apply d1 | apply d2 | apply d3)); refine blk_put (cs := #[.int .i64 ((rd_T74 l0 x28_2).f0), .string ((rd_T74 l0 x28_2).f1), .string (⟨#[]⟩ : ByteArray), .slice none 0 0]) ?_ 2 _ rfl; (with_reducible repeat (first | apply d1 | apply d2 | apply d3)); refine blk_put (cs := #[.int .i64 ((rd_T74 l0 x28_2).f0), .string (⟨#[]⟩ : ByteArray), .string (⟨#[]⟩ : ByteArray), .slice none 0 0]) ?_ 1 _ rfl; (with_reducible repeat (first | apply d1 | apply d2 | apply d3)); refine blk_put (cs := #[.int .i64 0, .string (⟨#[]⟩ : ByteArray), .string (⟨#[]⟩ : ByteArray), .slice none 0 0]) ?_ 0 _ rfl; (with_reducible repeat (first | apply d1 | apply d2 | apply d3)); exact BK302.out))⟩; have n2_ : Aside0 (Below w.heap.size w w59) := ⟨(by rw [hw]; exact aE)⟩; clear hw; clear HO_4; clear BK302; clear HB; have HO_4 := n0_; have BK302 := n1_; have HB := n2_; clear n0_ n1_ n2_; have hcz60_0 : w59.cell? ⟨gb302, 0, none⟩ = some (.int .i64 ((rd_T74 l0 x28_2).f0)) := (blk_cell BK302.out 0).trans rfl; have hcz60_1 : w59.cell? ⟨gb302, 1, none⟩ = some (.string ((rd_T74 l0 x28_2).f1)) := (blk_cell BK302.out 1).trans rfl; have hcz60_2 : w59.cell? ⟨gb302, 2, none⟩ = some (.string ((rd_T74 l0 x28_2).f2)) := (blk_cell BK302.out 2).trans rfl; have hcz60_3 : w59.cell? ⟨gb302, 3, none⟩ = some (.slice A301_3 ((rd_T74 l0 x28_2).f3).length c301_3) := (blk_cell BK302.out 3).trans rfl; have hfz60_0 := blk_frozen BK302.out 0; have hfz60_1 := blk_frozen BK302.out 1; have hfz60_2 := blk_frozen BK302.out 2; have hfz60_3 := blk_frozen BK302.out 3) | (go_at_call 55; (with_reducible refine (impl_Item_isGood.calls k2 ((rd_T74 l0 x28_2).f0) ((rd_T74 l0 x28_2).f1) ((rd_T74 l0 x28_2).f2) _ _ ((rd_T74 l0 x28_2).f3) false _ ?side1 ?side2 ?side3 A13.out).mono ?_); (case side1 => exact GL.below HGL.out aE); (case side2 => repeat (first | exact (Kd.C_below HR301_3.out HB.out) | (with_reducible refine Kd.C_alloc ?_ _) | (with_reducible refine Kd.C_drewN ?_ _) | (with_reducible refine Kd.C_drew ?_))); (case side3 => exact HC301_3.out); rintro e w61 ⟨rfl, hb⟩; have n0_ := Aside0.mk (Kd.R_below (aP HO_4.out) hb); have n1_ := Aside0.mk (blk_below (g := gb302) (o := .cells #[.int .i64 ((rd_T74 l0 x28_2).f0), .string ((rd_T74 l0 x28_2).f1), .string ((rd_T74 l0 x28_2).f2), .slice A301_3 ((rd_T74 l0 x28_2).f3).length c301_3] 74 (0, 0)) (aP BK302.out) hb); have n2_ := Aside0.mk (below_step aE hb); clear HO_4; clear BK302; clear HB; have HO_4 := n0_; have BK302 := n1_; have HB := n2_; clear n0_ n1_ n2_; (try clear hb); (try clear hb2); (try clear hk); (try clear hi))))
      go_ret
      exact ⟨by first | rfl | (simp only [aX1, aX2]; rfl) | (simp [*] <;> rfl), aE⟩
     subst c14
     have H1 : ((impl_Item_bytes.f k2 ((rd_T74 l0 x28_2).f0) ((rd_T74 l0 x28_2).f1) ((rd_T74 l0 x28_2).f2) ((rd_T74 l0 x28_2).f3)).bind fun t304 => (impl_DocOk.l1 k2 l0 (wrap64 (x3_2 + t304)) x4_2 x28_2 l0 (l0.length : Int) x28_2 ((rd_T74 l0 x28_2).f0) ((rd_T74 l0 x28_2).f1) ((rd_T74 l0 x28_2).f2) ((rd_T74 l0 x28_2).f3))) = some r := by rw [if_pos rfl] at H; exact H
     clear H
     have H := H1
     clear H1
     replace H := Option.bind_eq_some_iff.mp H
     obtain ⟨t304, A150, H⟩ := H
     replace H : (impl_DocOk.l1 k2 l0 (wrap64 (x3_2 + t304)) x4_2 x28_2 l0 (l0.length : Int) x28_2 ((rd_T74 l0 x28_2).f0) ((rd_T74 l0 x28_2).f1) ((rd_T74 l0 x28_2).f2) ((rd_T74 l0 x28_2).f3)) = some r := H
     have A15 := Aside0.mk A150
     clear A150
     have HC16 := Aside0.mk H
     clear H
     have p301 : 0 ≤ (x28_2 : Int) := aD
     have q301 : x28_2 < (l0.length : Int) := aD
     obtain ⟨ad301, A301_3, c301_3, e301, hx301_0, hx301_1, hx301_2, hx301_3, hl301_3, hi301_3⟩ := at_T74 HR0.out x28_2 p301 q301
     cases e301
     replace hx301_0 := (HB.out.cell (World.block_lt_of_cell? w _ hx301_0)).trans hx301_0
     replace hx301_1 := (HB.out.cell (World.block_lt_of_cell? w _ hx301_1)).trans hx301_1
     replace hx301_2 := (HB.out.cell (World.block_lt_of_cell? w _ hx301_2)).trans hx301_2
     replace hx301_3 := (HB.out.cell (World.block_lt_of_cell? w _ hx301_3)).trans hx301_3
     have HR301_3 := Aside0.mk hi301_3
     have HC301_3 := Aside0.mk hl301_3
     clear hi301_3 hl301_3
     replace p301 := eq_true p301
     replace q301 := eq_true q301
     go_upto_block 2 with (first | ((with_reducible refine gate_dst (N := 6) rfl ?_); (try (refine gate_guard (by rfl) ?_; dsimp only)); refine box_event ?hg (N := 6) ?hd (cs := #[.int .i64 0, .string (⟨#[]⟩ : ByteArray), .string (⟨#[]⟩ : ByteArray), .slice none 0 0]) (t := 74) ?hr ?_; (case hd => rfl); (case hg => rfl); (case hr => first | (go_simp; done) | (go_simp; rfl)); intro gb302 hg w17 hbox hb; have n0_ := Aside0.mk (Kd.R_below (aP HO_4.out) hb); have n1_ := Aside0.mk (below_step aB hb); have n2_ := Aside0.mk (hbox); have n3_ := Aside0.mk ((by rw [hg]; exact (below_size aB) : w.heap.size ≤ gb302)); have n4_ := Aside0.mk ((by rw [hg]; exact (below_size aB) : w.heap.size ≤ gb302)); clear HO_4; clear HB; have HO_4 := n0_; have HB := n1_; have BK302 := n2_; have GW302 := n3_; have GE302 := n4_; clear n0_ n1_ n2_ n3_ n4_; clear hb hbox hg; have hcz18_0 : w17.cell? ⟨gb302, 0, none⟩ = some (.int .i64 0) := (blk_cell BK302.out 0).trans rfl; have hcz18_1 : w17.cell? ⟨gb302, 1, none⟩ = some (.string (⟨#[]⟩ : ByteArray)) := (blk_cell BK302.out 1).trans rfl; have hcz18_2 : w17.cell? ⟨gb302, 2, none⟩ = some (.string (⟨#[]⟩ : ByteArray)) := (blk_cell BK302.out 2).trans rfl; have hcz18_3 : w17.cell? ⟨gb302, 3, none⟩ = some (.slice none 0 0) := (blk_cell BK302.out 3).trans rfl; have hfz18_0 := blk_frozen BK302.out 0; have hfz18_1 := blk_frozen BK302.out 1; have hfz18_2 := blk_frozen BK302.out 2; have hfz18_3 := blk_frozen BK302.out 3) | ((with_reducible refine gate_store (t := 74) (p := 6) rfl ?_); (try (rw [drewN_self w17]; generalize hq_ : World.drewN w17 _ = w17; have n0_ := Aside0.mk (Kd.R_at hq_ HO_4.out); have n1_ := Aside0.mk (blk_at hq_ BK302.out); have n2_ := Aside0.mk (below_at hq_ HB.out); clear hq_ HO_4 BK302 HB; have HO_4 := n0_; have BK302 := n1_; have HB := n2_; clear n0_ n1_ n2_)); refine store_event (t := 74) (p := 6) (v := ?vo_w19) (w1 := ((((w17.setCell ⟨gb302, 0, none⟩ (.int .i64 ((rd_T74 l0 x28_2).f0))).setCell ⟨gb302, 1, none⟩ (.string ((rd_T74 l0 x28_2).f1))).setCell ⟨gb302, 2, none⟩ (.string ((rd_T74 l0 x28_2).f2))).setCell ⟨gb302, 3, none⟩ (.slice A301_3 ((rd_T74 l0 x28_2).f3).length c301_3))) ?hg ?ho ?hn ?hr ?_; (case ho => rfl); (case hg => rfl); (case hn => rfl); (case hr => first | (go_simp; done) | (go_simp; rfl)); intro w19 hw; have n0_ : Aside0 (Kd.R (Kd.int .i64) 2 w19 w.heap.size (fun _ => True) u4 x4_2) := ⟨(by rw [hw]; exact (by (with_reducible repeat (first | apply Kd.R_alloc | apply Kd.R_drewN | apply Kd.R_drew)); exact Kd.R_mono (Kd.R_far (p := ⟨gb302, 3, none⟩) (Kd.R_far (p := ⟨gb302, 2, none⟩) (Kd.R_far (p := ⟨gb302, 1, none⟩) (Kd.R_far (p := ⟨gb302, 0, none⟩) (Kd.R_types HO_4.out BK302.out (by decide)) (fun _ hk => hk.2) (.int .i64 ((rd_T74 l0 x28_2).f0))) (fun _ hk => hk.2) (.string ((rd_T74 l0 x28_2).f1))) (fun _ hk => hk.2) (.string ((rd_T74 l0 x28_2).f2))) (fun _ hk => hk.2) (.slice A301_3 ((rd_T74 l0 x28_2).f3).length c301_3)) (fun _ hk => trivial)))⟩; have n1_ : Aside0 (w19.heap[gb302]? = some (.cells #[.int .i64 ((rd_T74 l0 x28_2).f0), .string ((rd_T74 l0 x28_2).f1), .string ((rd_T74 l0 x28_2).f2), .slice A301_3 ((rd_T74 l0 x28_2).f3).length c301_3] 74 (0, 0))) := ⟨(by rw [hw]; exact (by (with_reducible repeat (first | apply d1 | apply d2 | apply d3)); refine blk_put (cs := #[.int .i64 ((rd_T74 l0 x28_2).f0), .string ((rd_T74 l0 x28_2).f1), .string ((rd_T74 l0 x28_2).f2), .slice none 0 0]) ?_ 3 _ rfl; (with_reducible repeat (first | apply d1 | apply d2 | apply d3)); refine blk_put (cs := #[.int .i64 ((rd_T74 l0 x28_2).f0), .string ((rd_T74 l0 x28_2).f1), .string (⟨#[]⟩ : ByteArray), .slice none 0 0]) ?_ 2 _ rfl; (with_reducible repeat (first | apply d1 | apply d2 | apply d3)); refine blk_put (cs := #[.int .i64 ((rd_T74 l0 x28_2).f0), .string (⟨#[]⟩ : ByteArray), .string (⟨#[]⟩ : ByteArray), .slice none 0 0]) ?_ 1 _ rfl; (with_reducible repeat (first | apply d1 | apply d2 | apply d3)); refine blk_put (cs := #[.int .i64 0, .string (⟨#[]⟩ : ByteArray), .string (⟨#[]⟩ : ByteArray), .slice none 0 0]) ?_ 0 _ rfl; (with_reducible repeat (first | apply d1 | apply d2 | apply d3)); exact BK302.out))⟩; have n2_ : Aside0 (Below w.heap.size w w19) := ⟨(by rw [hw]; exact aE)⟩; clear hw; clear HO_4; clear BK302; clear HB; have HO_4 := n0_; have BK302 := n1_; have HB := n2_; clear n0_ n1_ n2_; have hcz20_0 : w19.cell? ⟨gb302, 0, none⟩ = some (.int .i64 ((rd_T74 l0 x28_2).f0)) := (blk_cell BK302.out 0).trans rfl; have hcz20_1 : w19.cell? ⟨gb302, 1, none⟩ = some (.string ((rd_T74 l0 x28_2).f1)) := (blk_cell BK302.out 1).trans rfl; have hcz20_2 : w19.cell? ⟨gb302, 2, none⟩ = some (.string ((rd_T74 l0 x28_2).f2)) := (blk_cell BK302.out 2).trans rfl; have hcz20_3 : w19.cell? ⟨gb302, 3, none⟩ = some (.slice A301_3 ((rd_T74 l0 x28_2).f3).length c301_3) := (blk_cell BK302.out 3).trans rfl; have hfz20_0 := blk_frozen BK302.out 0; have hfz20_1 := blk_frozen BK302.out 1; have hfz20_2 := blk_frozen BK302.out 2; have hfz20_3 := blk_frozen BK302.out 3) | (go_at_call 55; (with_reducible refine (impl_Item_isGood.calls k2 ((rd_T74 l0 x28_2).f0) ((rd_T74 l0 x28_2).f1) ((rd_T74 l0 x28_2).f2) _ _ ((rd_T74 l0 x28_2).f3) true _ ?side1 ?side2 ?side3 A13.out).mono ?_); (case side1 => exact GL.below HGL.out aE); (case side2 => repeat (first | exact (Kd.C_below HR301_3.out HB.out) | (with_reducible refine Kd.C_alloc ?_ _) | (with_reducible refine Kd.C_drewN ?_ _) | (with_reducible refine Kd.C_drew ?_))); (case side3 => exact HC301_3.out); rintro e w21 ⟨rfl, hb⟩; have n0_ := Aside0.mk (Kd.R_below (aP HO_4.out) hb); have n1_ := Aside0.mk (blk_below (g := gb302) (o := .cells #[.int .i64 ((rd_T74 l0 x28_2).f0), .string ((rd_T74 l0 x28_2).f1), .string ((rd_T74 l0 x28_2).f2), .slice A301_3 ((rd_T74 l0 x28_2).f3).length c301_3] 74 (0, 0)) (aP BK302.out) hb); have n2_ := Aside0.mk (below_step aE hb); clear HO_4; clear BK302; clear HB; have HO_4 := n0_; have BK302 := n1_; have HB := n2_; clear n0_ n1_ n2_; (try clear hb); (try clear hb2); (try clear hk); (try clear hi); have hcz22_0 : w21.cell? ⟨gb302, 0, none⟩ = some (.int .i64 ((rd_T74 l0 x28_2).f0)) := (blk_cell BK302.out 0).trans rfl; have hcz22_1 : w21.cell? ⟨gb302, 1, none⟩ = some (.string ((rd_T74 l0 x28_2).f1)) := (blk_cell BK302.out 1).trans rfl; have hcz22_2 : w21.cell? ⟨gb302, 2, none⟩ = some (.string ((rd_T74 l0 x28_2).f2)) := (blk_cell BK302.out 2).trans rfl; have hcz22_3 : w21.cell? ⟨gb302, 3, none⟩ = some (.slice A301_3 ((rd_T74 l0 x28_2).f3).length c301_3) := (blk_cell BK302.out 3).trans rfl; have hfz22_0 := blk_frozen BK302.out 0; have hfz22_1 := blk_frozen BK302.out 1; have hfz22_2 := blk_frozen BK302.out 2; have hfz22_3 := blk_frozen BK302.out 3) | (go_at_call 56; (with_reducible refine (impl_Item_bytes.calls k2 ((rd_T74 l0 x28_2).f0) ((rd_T74 l0 x28_2).f1) ((rd_T74 l0 x28_2).f2) _ _ ((rd_T74 l0 x28_2).f3) t304 _ ?side1 ?side2 A15.out).mono ?_); (case side1 => repeat (first | exact (Kd.C_below HR301_3.out HB.out) | (with_reducible refine Kd.C_alloc ?_ _) | (with_reducible refine Kd.C_drewN ?_ _) | (with_reducible refine Kd.C_drew ?_))); (case side2 => exact HC301_3.out); rintro e w23 ⟨rfl, hb⟩; have n0_ := Aside0.mk (Kd.R_below (aP HO_4.out) hb); have n1_ := Aside0.mk (blk_below (g := gb302) (o := .cells #[.int .i64 ((rd_T74 l0 x28_2).f0), .string ((rd_T74 l0 x28_2).f1), .string ((rd_T74 l0 x28_2).f2), .slice A301_3 ((rd_T74 l0 x28_2).f3).length c301_3] 74 (0, 0)) (aP BK302.out) hb); have n2_ := Aside0.mk (below_step aE hb); clear HO_4; clear BK302; clear HB; have HO_4 := n0_; have BK302 := n1_; have HB := n2_; clear n0_ n1_ n2_; (try clear hb); (try clear hb2); (try clear hk); (try clear hi)))
     repeat (go_quiet (first | ((with_reducible refine gate_dst (N := 6) rfl ?_); (try (refine gate_guard (by rfl) ?_; dsimp only)); refine box_event ?hg (N := 6) ?hd (cs := #[.int .i64 0, .string (⟨#[]⟩ : ByteArray), .string (⟨#[]⟩ : ByteArray), .slice none 0 0]) (t := 74) ?hr ?_; (case hd => rfl); (case hg => rfl); (case hr => first | (go_simp; done) | (go_simp; rfl)); intro gb302 hg w17 hbox hb; have n0_ := Aside0.mk (Kd.R_below (aP HO_4.out) hb); have n1_ := Aside0.mk (below_step aB hb); have n2_ := Aside0.mk (hbox); have n3_ := Aside0.mk ((by rw [hg]; exact (below_size aB) : w.heap.size ≤ gb302)); have n4_ := Aside0.mk ((by rw [hg]; exact (below_size aB) : w.heap.size ≤ gb302)); clear HO_4; clear HB; have HO_4 := n0_; have HB := n1_; have BK302 := n2_; have GW302 := n3_; have GE302 := n4_; clear n0_ n1_ n2_ n3_ n4_; clear hb hbox hg; have hcz18_0 : w17.cell? ⟨gb302, 0, none⟩ = some (.int .i64 0) := (blk_cell BK302.out 0).trans rfl; have hcz18_1 : w17.cell? ⟨gb302, 1, none⟩ = some (.string (⟨#[]⟩ : ByteArray)) := (blk_cell BK302.out 1).trans rfl; have hcz18_2 : w17.cell? ⟨gb302, 2, none⟩ = some (.string (⟨#[]⟩ : ByteArray)) := (blk_cell BK302.out 2).trans rfl; have hcz18_3 : w17.cell? ⟨gb302, 3, none⟩ = some (.slice none 0 0) := (blk_cell BK302.out 3).trans rfl; have hfz18_0 := blk_frozen BK302.out 0; have hfz18_1 := blk_frozen BK302.out 1; have hfz18_2 := blk_frozen BK302.out 2; have hfz18_3 := blk_frozen BK302.out 3) | ((with_reducible refine gate_store (t := 74) (p := 6) rfl ?_); (try (rw [drewN_self w17]; generalize hq_ : World.drewN w17 _ = w17; have n0_ := Aside0.mk (Kd.R_at hq_ HO_4.out); have n1_ := Aside0.mk (blk_at hq_ BK302.out); have n2_ := Aside0.mk (below_at hq_ HB.out); clear hq_ HO_4 BK302 HB; have HO_4 := n0_; have BK302 := n1_; have HB := n2_; clear n0_ n1_ n2_)); refine store_event (t := 74) (p := 6) (v := ?vo_w19) (w1 := ((((w17.setCell ⟨gb302, 0, none⟩ (.int .i64 ((rd_T74 l0 x28_2).f0))).setCell ⟨gb302, 1, none⟩ (.string ((rd_T74 l0 x28_2).f1))).setCell ⟨gb302, 2, none⟩ (.string ((rd_T74 l0 x28_2).f2))).setCell ⟨gb302, 3, none⟩ (.slice A301_3 ((rd_T74 l0 x28_2).f3).length c301_3))) ?hg ?ho ?hn ?hr ?_; (case ho => rfl); (case hg => rfl); (case hn => rfl); (case hr => first | (go_simp; done) | (go_simp; rfl)); intro w19 hw; have n0_ : Aside0 (Kd.R (Kd.int .i64) 2 w19 w.heap.size (fun _ => True) u4 x4_2) := ⟨(by rw [hw]; exact (by (with_reducible repeat (first | apply Kd.R_alloc | apply Kd.R_drewN | apply Kd.R_drew)); exact Kd.R_mono (Kd.R_far (p := ⟨gb302, 3, none⟩) (Kd.R_far (p := ⟨gb302, 2, none⟩) (Kd.R_far (p := ⟨gb302, 1, none⟩) (Kd.R_far (p := ⟨gb302, 0, none⟩) (Kd.R_types HO_4.out BK302.out (by decide)) (fun _ hk => hk.2) (.int .i64 ((rd_T74 l0 x28_2).f0))) (fun _ hk => hk.2) (.string ((rd_T74 l0 x28_2).f1))) (fun _ hk => hk.2) (.string ((rd_T74 l0 x28_2).f2))) (fun _ hk => hk.2) (.slice A301_3 ((rd_T74 l0 x28_2).f3).length c301_3)) (fun _ hk => trivial)))⟩; have n1_ : Aside0 (w19.heap[gb302]? = some (.cells #[.int .i64 ((rd_T74 l0 x28_2).f0), .string ((rd_T74 l0 x28_2).f1), .string ((rd_T74 l0 x28_2).f2), .slice A301_3 ((rd_T74 l0 x28_2).f3).length c301_3] 74 (0, 0))) := ⟨(by rw [hw]; exact (by (with_reducible repeat (first | apply d1 | apply d2 | apply d3)); refine blk_put (cs := #[.int .i64 ((rd_T74 l0 x28_2).f0), .string ((rd_T74 l0 x28_2).f1), .string ((rd_T74 l0 x28_2).f2), .slice none 0 0]) ?_ 3 _ rfl; (with_reducible repeat (first | apply d1 | apply d2 | apply d3)); refine blk_put (cs := #[.int .i64 ((rd_T74 l0 x28_2).f0), .string ((rd_T74 l0 x28_2).f1), .string (⟨#[]⟩ : ByteArray), .slice none 0 0]) ?_ 2 _ rfl; (with_reducible repeat (first | apply d1 | apply d2 | apply d3)); refine blk_put (cs := #[.int .i64 ((rd_T74 l0 x28_2).f0), .string (⟨#[]⟩ : ByteArray), .string (⟨#[]⟩ : ByteArray), .slice none 0 0]) ?_ 1 _ rfl; (with_reducible repeat (first | apply d1 | apply d2 | apply d3)); refine blk_put (cs := #[.int .i64 0, .string (⟨#[]⟩ : ByteArray), .string (⟨#[]⟩ : ByteArray), .slice none 0 0]) ?_ 0 _ rfl; (with_reducible repeat (first | apply d1 | apply d2 | apply d3)); exact BK302.out))⟩; have n2_ : Aside0 (Below w.heap.size w w19) := ⟨(by rw [hw]; exact aE)⟩; clear hw; clear HO_4; clear BK302; clear HB; have HO_4 := n0_; have BK302 := n1_; have HB := n2_; clear n0_ n1_ n2_; have hcz20_0 : w19.cell? ⟨gb302, 0, none⟩ = some (.int .i64 ((rd_T74 l0 x28_2).f0)) := (blk_cell BK302.out 0).trans rfl; have hcz20_1 : w19.cell? ⟨gb302, 1, none⟩ = some (.string ((rd_T74 l0 x28_2).f1)) := (blk_cell BK302.out 1).trans rfl; have hcz20_2 : w19.cell? ⟨gb302, 2, none⟩ = some (.string ((rd_T74 l0 x28_2).f2)) := (blk_cell BK302.out 2).trans rfl; have hcz20_3 : w19.cell? ⟨gb302, 3, none⟩ = some (.slice A301_3 ((rd_T74 l0 x28_2).f3).length c301_3) := (blk_cell BK302.out 3).trans rfl; have hfz20_0 := blk_frozen BK302.out 0; have hfz20_1 := blk_frozen BK302.out 1; have hfz20_2 := blk_frozen BK302.out 2; have hfz20_3 := blk_frozen BK302.out 3) | (go_at_call 55; (with_reducible refine (impl_Item_isGood.calls k2 ((rd_T74 l0 x28_2).f0) ((rd_T74 l0 x28_2).f1) ((rd_T74 l0 x28_2).f2) _ _ ((rd_T74 l0 x28_2).f3) true _ ?side1 ?side2 ?side3 A13.out).mono ?_); (case side1 => exact GL.below HGL.out aE); (case side2 => repeat (first | exact (Kd.C_below HR301_3.out HB.out) | (with_reducible refine Kd.C_alloc ?_ _) | (with_reducible refine Kd.C_drewN ?_ _) | (with_reducible refine Kd.C_drew ?_))); (case side3 => exact HC301_3.out); rintro e w21 ⟨rfl, hb⟩; have n0_ := Aside0.mk (Kd.R_below (aP HO_4.out) hb); have n1_ := Aside0.mk (blk_below (g := gb302) (o := .cells #[.int .i64 ((rd_T74 l0 x28_2).f0), .string ((rd_T74 l0 x28_2).f1), .string ((rd_T74 l0 x28_2).f2), .slice A301_3 ((rd_T74 l0 x28_2).f3).length c301_3] 74 (0, 0)) (aP BK302.out) hb); have n2_ := Aside0.mk (below_step aE hb); clear HO_4; clear BK302; clear HB; have HO_4 := n0_; have BK302 := n1_; have HB := n2_; clear n0_ n1_ n2_; (try clear hb); (try clear hb2); (try clear hk); (try clear hi); have hcz22_0 : w21.cell? ⟨gb302, 0, none⟩ = some (.int .i64 ((rd_T74 l0 x28_2).f0)) := (blk_cell BK302.out 0).trans rfl; have hcz22_1 : w21.cell? ⟨gb302, 1, none⟩ = some (.string ((rd_T74 l0 x28_2).f1)) := (blk_cell BK302.out 1).trans rfl; have hcz22_2 : w21.cell? ⟨gb302, 2, none⟩ = some (.string ((rd_T74 l0 x28_2).f2)) := (blk_cell BK302.out 2).trans rfl; have hcz22_3 : w21.cell? ⟨gb302, 3, none⟩ = some (.slice A301_3 ((rd_T74 l0 x28_2).f3).length c301_3) := (blk_cell BK302.out 3).trans rfl; have hfz22_0 := blk_frozen BK302.out 0; have hfz22_1 := blk_frozen BK302.out 1; have hfz22_2 := blk_frozen BK302.out 2; have hfz22_3 := blk_frozen BK302.out 3) | (go_at_call 56; (with_reducible refine (impl_Item_bytes.calls k2 ((rd_T74 l0 x28_2).f0) ((rd_T74 l0 x28_2).f1) ((rd_T74 l0 x28_2).f2) _ _ ((rd_T74 l0 x28_2).f3) t304 _ ?side1 ?side2 A15.out).mono ?_); (case side1 => repeat (first | exact (Kd.C_below HR301_3.out HB.out) | (with_reducible refine Kd.C_alloc ?_ _) | (with_reducible refine Kd.C_drewN ?_ _) | (with_reducible refine Kd.C_drew ?_))); (case side2 => exact HC301_3.out); rintro e w23 ⟨rfl, hb⟩; have n0_ := Aside0.mk (Kd.R_below (aP HO_4.out) hb); have n1_ := Aside0.mk (blk_below (g := gb302) (o := .cells #[.int .i64 ((rd_T74 l0 x28_2).f0), .string ((rd_T74 l0 x28_2).f1), .string ((rd_T74 l0 x28_2).f2), .slice A301_3 ((rd_T74 l0 x28_2).f3).length c301_3] 74 (0, 0)) (aP BK302.out) hb); have n2_ := Aside0.mk (below_step aE hb); clear HO_4; clear BK302; clear HB; have HO_4 := n0_; have BK302 := n1_; have HB := n2_; clear n0_ n1_ n2_; (try clear hb); (try clear hb2); (try clear hk); (try clear hi))); go_upto_block 2 with (first | ((with_reducible refine gate_dst (N := 6) rfl ?_); (try (refine gate_guard (by rfl) ?_; dsimp only)); refine box_event ?hg (N := 6) ?hd (cs := #[.int .i64 0, .string (⟨#[]⟩ : ByteArray), .string (⟨#[]⟩ : ByteArray), .slice none 0 0]) (t := 74) ?hr ?_; (case hd => rfl); (case hg => rfl); (case hr => first | (go_simp; done) | (go_simp; rfl)); intro gb302 hg w17 hbox hb; have n0_ := Aside0.mk (Kd.R_below (aP HO_4.out) hb); have n1_ := Aside0.mk (below_step aB hb); have n2_ := Aside0.mk (hbox); have n3_ := Aside0.mk ((by rw [hg]; exact (below_size aB) : w.heap.size ≤ gb302)); have n4_ := Aside0.mk ((by rw [hg]; exact (below_size aB) : w.heap.size ≤ gb302)); clear HO_4; clear HB; have HO_4 := n0_; have HB := n1_; have BK302 := n2_; have GW302 := n3_; have GE302 := n4_; clear n0_ n1_ n2_ n3_ n4_; clear hb hbox hg; have hcz18_0 : w17.cell? ⟨gb302, 0, none⟩ = some (.int .i64 0) := (blk_cell BK302.out 0).trans rfl; have hcz18_1 : w17.cell? ⟨gb302, 1, none⟩ = some (.string (⟨#[]⟩ : ByteArray)) := (blk_cell BK302.out 1).trans rfl; have hcz18_2 : w17.cell? ⟨gb302, 2, none⟩ = some (.string (⟨#[]⟩ : ByteArray)) := (blk_cell BK302.out 2).trans rfl; have hcz18_3 : w17.cell? ⟨gb302, 3, none⟩ = some (.slice none 0 0) := (blk_cell BK302.out 3).trans rfl; have hfz18_0 := blk_frozen BK302.out 0; have hfz18_1 := blk_frozen BK302.out 1; have hfz18_2 := blk_frozen BK302.out 2; have hfz18_3 := blk_frozen BK302.out 3) | ((with_reducible refine gate_store (t := 74) (p := 6) rfl ?_); (try (rw [drewN_self w17]; generalize hq_ : World.drewN w17 _ = w17; have n0_ := Aside0.mk (Kd.R_at hq_ HO_4.out); have n1_ := Aside0.mk (blk_at hq_ BK302.out); have n2_ := Aside0.mk (below_at hq_ HB.out); clear hq_ HO_4 BK302 HB; have HO_4 := n0_; have BK302 := n1_; have HB := n2_; clear n0_ n1_ n2_)); refine store_event (t := 74) (p := 6) (v := ?vo_w19) (w1 := ((((w17.setCell ⟨gb302, 0, none⟩ (.int .i64 ((rd_T74 l0 x28_2).f0))).setCell ⟨gb302, 1, none⟩ (.string ((rd_T74 l0 x28_2).f1))).setCell ⟨gb302, 2, none⟩ (.string ((rd_T74 l0 x28_2).f2))).setCell ⟨gb302, 3, none⟩ (.slice A301_3 ((rd_T74 l0 x28_2).f3).length c301_3))) ?hg ?ho ?hn ?hr ?_; (case ho => rfl); (case hg => rfl); (case hn => rfl); (case hr => first | (go_simp; done) | (go_simp; rfl)); intro w19 hw; have n0_ : Aside0 (Kd.R (Kd.int .i64) 2 w19 w.heap.size (fun _ => True) u4 x4_2) := ⟨(by rw [hw]; exact (by (with_reducible repeat (first | apply Kd.R_alloc | apply Kd.R_drewN | apply Kd.R_drew)); exact Kd.R_mono (Kd.R_far (p := ⟨gb302, 3, none⟩) (Kd.R_far (p := ⟨gb302, 2, none⟩) (Kd.R_far (p := ⟨gb302, 1, none⟩) (Kd.R_far (p := ⟨gb302, 0, none⟩) (Kd.R_types HO_4.out BK302.out (by decide)) (fun _ hk => hk.2) (.int .i64 ((rd_T74 l0 x28_2).f0))) (fun _ hk => hk.2) (.string ((rd_T74 l0 x28_2).f1))) (fun _ hk => hk.2) (.string ((rd_T74 l0 x28_2).f2))) (fun _ hk => hk.2) (.slice A301_3 ((rd_T74 l0 x28_2).f3).length c301_3)) (fun _ hk => trivial)))⟩; have n1_ : Aside0 (w19.heap[gb302]? = some (.cells #[.int .i64 ((rd_T74 l0 x28_2).f0), .string ((rd_T74 l0 x28_2).f1), .string ((rd_T74 l0 x28_2).f2), .slice A301_3 ((rd_T74 l0 x28_2).f3).length c301_3] 74 (0, 0))) := ⟨(by rw [hw]; exact (by (with_reducible repeat (first | apply d1 | apply d2 | apply d3)); refine blk_put (cs := #[.int .i64 ((rd_T74 l0 x28_2).f0), .string ((rd_T74 l0 x28_2).f1), .string ((rd_T74 l0 x28_2).f2), .slice none 0 0]) ?_ 3 _ rfl; (with_reducible repeat (first | apply d1 | apply d2 | apply d3)); refine blk_put (cs := #[.int .i64 ((rd_T74 l0 x28_2).f0), .string ((rd_T74 l0 x28_2).f1), .string (⟨#[]⟩ : ByteArray), .slice none 0 0]) ?_ 2 _ rfl; (with_reducible repeat (first | apply d1 | apply d2 | apply d3)); refine blk_put (cs := #[.int .i64 ((rd_T74 l0 x28_2).f0), .string (⟨#[]⟩ : ByteArray), .string (⟨#[]⟩ : ByteArray), .slice none 0 0]) ?_ 1 _ rfl; (with_reducible repeat (first | apply d1 | apply d2 | apply d3)); refine blk_put (cs := #[.int .i64 0, .string (⟨#[]⟩ : ByteArray), .string (⟨#[]⟩ : ByteArray), .slice none 0 0]) ?_ 0 _ rfl; (with_reducible repeat (first | apply d1 | apply d2 | apply d3)); exact BK302.out))⟩; have n2_ : Aside0 (Below w.heap.size w w19) := ⟨(by rw [hw]; exact aE)⟩; clear hw; clear HO_4; clear BK302; clear HB; have HO_4 := n0_; have BK302 := n1_; have HB := n2_; clear n0_ n1_ n2_; have hcz20_0 : w19.cell? ⟨gb302, 0, none⟩ = some (.int .i64 ((rd_T74 l0 x28_2).f0)) := (blk_cell BK302.out 0).trans rfl; have hcz20_1 : w19.cell? ⟨gb302, 1, none⟩ = some (.string ((rd_T74 l0 x28_2).f1)) := (blk_cell BK302.out 1).trans rfl; have hcz20_2 : w19.cell? ⟨gb302, 2, none⟩ = some (.string ((rd_T74 l0 x28_2).f2)) := (blk_cell BK302.out 2).trans rfl; have hcz20_3 : w19.cell? ⟨gb302, 3, none⟩ = some (.slice A301_3 ((rd_T74 l0 x28_2).f3).length c301_3) := (blk_cell BK302.out 3).trans rfl; have hfz20_0 := blk_frozen BK302.out 0; have hfz20_1 := blk_frozen BK302.out 1; have hfz20_2 := blk_frozen BK302.out 2; have hfz20_3 := blk_frozen BK302.out 3) | (go_at_call 55; (with_reducible refine (impl_Item_isGood.calls k2 ((rd_T74 l0 x28_2).f0) ((rd_T74 l0 x28_2).f1) ((rd_T74 l0 x28_2).f2) _ _ ((rd_T74 l0 x28_2).f3) true _ ?side1 ?side2 ?side3 A13.out).mono ?_); (case side1 => exact GL.below HGL.out aE); (case side2 => repeat (first | exact (Kd.C_below HR301_3.out HB.out) | (with_reducible refine Kd.C_alloc ?_ _) | (with_reducible refine Kd.C_drewN ?_ _) | (with_reducible refine Kd.C_drew ?_))); (case side3 => exact HC301_3.out); rintro e w21 ⟨rfl, hb⟩; have n0_ := Aside0.mk (Kd.R_below (aP HO_4.out) hb); have n1_ := Aside0.mk (blk_below (g := gb302) (o := .cells #[.int .i64 ((rd_T74 l0 x28_2).f0), .string ((rd_T74 l0 x28_2).f1), .string ((rd_T74 l0 x28_2).f2), .slice A301_3 ((rd_T74 l0 x28_2).f3).length c301_3] 74 (0, 0)) (aP BK302.out) hb); have n2_ := Aside0.mk (below_step aE hb); clear HO_4; clear BK302; clear HB; have HO_4 := n0_; have BK302 := n1_; have HB := n2_; clear n0_ n1_ n2_; (try clear hb); (try clear hb2); (try clear hk); (try clear hi); have hcz22_0 : w21.cell? ⟨gb302, 0, none⟩ = some (.int .i64 ((rd_T74 l0 x28_2).f0)) := (blk_cell BK302.out 0).trans rfl; have hcz22_1 : w21.cell? ⟨gb302, 1, none⟩ = some (.string ((rd_T74 l0 x28_2).f1)) := (blk_cell BK302.out 1).trans rfl; have hcz22_2 : w21.cell? ⟨gb302, 2, none⟩ = some (.string ((rd_T74 l0 x28_2).f2)) := (blk_cell BK302.out 2).trans rfl; have hcz22_3 : w21.cell? ⟨gb302, 3, none⟩ = some (.slice A301_3 ((rd_T74 l0 x28_2).f3).length c301_3) := (blk_cell BK302.out 3).trans rfl; have hfz22_0 := blk_frozen BK302.out 0; have hfz22_1 := blk_frozen BK302.out 1; have hfz22_2 := blk_frozen BK302.out 2; have hfz22_3 := blk_frozen BK302.out 3) | (go_at_call 56; (with_reducible refine (impl_Item_bytes.calls k2 ((rd_T74 l0 x28_2).f0) ((rd_T74 l0 x28_2).f1) ((rd_T74 l0 x28_2).f2) _ _ ((rd_T74 l0 x28_2).f3) t304 _ ?side1 ?side2 A15.out).mono ?_); (case side1 => repeat (first | exact (Kd.C_below HR301_3.out HB.out) | (with_reducible refine Kd.C_alloc ?_ _) | (with_reducible refine Kd.C_drewN ?_ _) | (with_reducible refine Kd.C_drew ?_))); (case side2 => exact HC301_3.out); rintro e w23 ⟨rfl, hb⟩; have n0_ := Aside0.mk (Kd.R_below (aP HO_4.out) hb); have n1_ := Aside0.mk (blk_below (g := gb302) (o := .cells #[.int .i64 ((rd_T74 l0 x28_2).f0), .string ((rd_T74 l0 x28_2).f1), .string ((rd_T74 l0 x28_2).f2), .slice A301_3 ((rd_T74 l0 x28_2).f3).length c301_3] 74 (0, 0)) (aP BK302.out) hb); have n2_ := Aside0.mk (below_step aE hb); clear HO_4; clear BK302; clear HB; have HO_4 := n0_; have BK302 := n1_; have HB := n2_; clear n0_ n1_ n2_; (try clear hb); (try clear hb2); (try clear hk); (try clear hi))))
     (try simp only [Act.put, List.setIfInBounds_toArray, List.set_cons_zero, List.set_cons_succ])
     go_cut [4] (fun v4 wc => ∃ (kq : Nat) (x4_15 : List Int), Aside0 (impl_DocOk.j3 kq l0 (wrap64 (x3_2 + t304)) x4_15 x28_2 l0 (l0.length : Int) x28_2 ((rd_T74 l0 x28_2).f0) ((rd_T74 l0 x28_2).f1) ((rd_T74 l0 x28_2).f2) ((rd_T74 l0 x28_2).f3) = some r) ∧ Aside0 (kq ≤ k2) ∧ Aside0 (Kd.R (Kd.int .i64) 2 wc w.heap.size (fun _ => True) v4 x4_15) ∧ Aside0 (wc.heap[gb302]? = some (.cells #[.int .i64 ((rd_T74 l0 x28_2).f0), .string ((rd_T74 l0 x28_2).f1), .string ((rd_T74 l0 x28_2).f2), (.slice A301_3 ((rd_T74 l0 x28_2).f3).length c301_3)] 74 (0, 0))) ∧ Aside0 (Below w.heap.size w wc))
     case first =>
      have H := HC16.out
      clear HC16
      have H' := Aside0.mk H
      clear H
      go_wp2
      repeat (go_quiet (fail); try go_wp2)
      go_loopg [4] k2 (fun kq v4 w' => ∃ (x4_3 : List Int), Aside0 (impl_DocOk.l1 kq l0 (wrap64 (x3_2 + t304)) x4_3 x28_2 l0 (l0.length : Int) x28_2 ((rd_T74 l0 x28_2).f0) ((rd_T74 l0 x28_2).f1) ((rd_T74 l0 x28_2).f2) ((rd_T74 l0 x28_2).f3) = some r) ∧ Aside0 (kq ≤ k2) ∧ Aside0 (Kd.R (Kd.int .i64) 2 w' w.heap.size (fun _ => True) v4 x4_3) ∧ Aside0 (w'.heap[gb302]? = some (.cells #[.int .i64 ((rd_T74 l0 x28_2).f0), .string ((rd_T74 l0 x28_2).f1), .string ((rd_T74 l0 x28_2).f2), (.slice A301_3 ((rd_T74 l0 x28_2).f3).length c301_3)] 74 (0, 0))) ∧ Aside0 (Below w.heap.size w w'))
      case atStart => exact ⟨(x4_2), H', ⟨Nat.le_refl _⟩, ⟨aP HO_4.out⟩, ⟨aP BK302.out⟩, ⟨aE⟩⟩
      case round =>
       clear H'
       try clear c1
       try clear c2
       try clear p2
       try clear q2
       try clear hx2
       try clear qi2
       try clear c3
       try clear p3
       try clear q3
       try clear hx3
       try clear c4
       try clear c5
       try clear c5b0
       try clear c5b1
       try clear c6
       try clear c6b0
       try clear c6b1
       try clear p6
       try clear c7
       try clear c10
       try clear c10b0
       try clear c11
       try clear c11b0
       try clear c12
       try clear c12b0
       try clear c14
       try clear c18
       try clear hcz18_0
       try clear hcz18_1
       try clear hcz18_2
       try clear hcz18_3
       try clear hcz20_0
       try clear hcz20_1
       try clear hcz20_2
       try clear hcz20_3
       try clear hcz22_0
       try clear hcz22_1
       try clear hcz22_2
       try clear hcz22_3
       try clear hfz18_0
       try clear hfz18_1
       try clear hfz18_2
       try clear hfz18_3
       try clear hfz20_0
       try clear hfz20_1
       try clear hfz20_2
       try clear hfz20_3
       try clear hfz22_0
       try clear hfz22_1
       try clear hfz22_2
       try clear hfz22_3
       try clear hx296_0
       try clear hx296_1
       try clear hx296_2
       try clear hx296_3
       try clear hx297_0
       try clear hx297_1
       try clear hx297_2
       try clear hx297_3
       try clear hx301_0
       try clear hx301_1
       try clear hx301_2
       try clear hx301_3
       try clear p2
       try clear p296
       try clear p297
       try clear p301
       try clear q2
       try clear q296
       try clear q297
       try clear q301
       obtain ⟨x4_3, HA, HK3, HO_4, BK302, HB⟩ := hrel
       cases gk with
       | zero => exact absurd HA.out (by simp [impl_DocOk.l1])
       | succ k3 =>
        have H := HA.out
        clear HA
        simp only [impl_DocOk.l1] at H
        by_cases c24 : (x4_3.length : Int) > 0
        rotate_left
        ·rw [if_neg c24] at H
         have c24b0 : decide (0 < (x4_3.length : Int)) = false := decide_eq_false c24
         have c24b1 : decide (0 < x4_3.length) = false := decide_eq_false (by omega)
         clear c24
         (first | rw [c24b0] | (simp only [i64_w, i32_w]; rw [c24b0]) | skip)
         have H' := Aside0.mk H
         clear H
         obtain ⟨Ao35, co35, eo35⟩ := Kd.R_slice HO_4.out
         subst eo35
         go_wp2
         repeat (go_quiet (fail); try go_wp2)
         go_meet
         case rel => exact ⟨_, (x4_3), H', ⟨by have := HJ1.out; have := HK2.out; have := HK3.out; first | omega | exact Nat.le_refl _⟩, ⟨aP HO_4.out⟩, ⟨aP BK302.out⟩, ⟨aE⟩⟩
        rw [if_pos c24] at H
        have c24b0 : decide (0 < (x4_3.length : Int)) = true := decide_eq_true c24
        have c24b1 : decide (0 < x4_3.length) = true := decide_eq_true (by omega)
        clear c24
        (first | rw [c24b0] | (simp only [i64_w, i32_w]; rw [c24b0]) | skip)
        obtain ⟨ji25, hji25⟩ : ∃ j_ : Int, (wrap64 ((x4_3.length : Int) - 1)) = j_ := ⟨_, rfl⟩
        replace H : (if 0 ≤ (ji25) then (if (ji25) < (x4_3.length : Int) then (if (rd x4_3 (ji25)) = ((rd_T74 l0 x28_2).f0) then (impl_DocOk.j3 k3 l0 (wrap64 (x3_2 + t304)) x4_3 x28_2 l0 (l0.length : Int) x28_2 ((rd_T74 l0 x28_2).f0) ((rd_T74 l0 x28_2).f1) ((rd_T74 l0 x28_2).f2) ((rd_T74 l0 x28_2).f3)) else (if (ji25) ≤ (x4_3.length : Int) then (impl_DocOk.l1 k3 l0 (wrap64 (x3_2 + t304)) (x4_3.take ((ji25) : Int).toNat) x28_2 l0 (l0.length : Int) x28_2 ((rd_T74 l0 x28_2).f0) ((rd_T74 l0 x28_2).f1) ((rd_T74 l0 x28_2).f2) ((rd_T74 l0 x28_2).f3)) else (none))) else (none)) else (none)) = some r := by first | (rw [hji25] at H; exact H) | (simp only [hji25] at H ⊢; exact H)
        have hji25w : (IntKind.i64.wrap ((x4_3.length : Int) - 1)) = ji25 := (i64_w _).trans hji25
        by_cases c26 : 0 ≤ (ji25)
        rotate_left
        ·rw [if_neg c26] at H
         exact absurd H (by simp)
        rw [if_pos c26] at H
        have c26b0 : decide (0 ≤ (ji25)) = true := decide_eq_true c26
        clear c26
        by_cases c27 : (ji25) < (x4_3.length : Int)
        rotate_left
        ·rw [if_neg c27] at H
         exact absurd H (by simp)
        rw [if_pos c27] at H
        have c27b0 : decide ((ji25) < (x4_3.length : Int)) = true := decide_eq_true c27
        clear c27
        by_cases c28 : (rd x4_3 (ji25)) = ((rd_T74 l0 x28_2).f0)
        ·rw [if_pos c28] at H
         have c28b0 : ((rd x4_3 (ji25)) == ((rd_T74 l0 x28_2).f0)) = true := beq_iff_eq.mpr c28
         have c28b1 : ((rd x4_3 (ji25)) != ((rd_T74 l0 x28_2).f0)) = false := bne_eq_false_iff_eq.mpr c28
         clear c28
         have H' := Aside0.mk H
         clear H
         obtain ⟨Ao29, co29, eo29⟩ := Kd.R_slice HO_4.out
         subst eo29
         have p305 : 0 ≤ ((ji25) : Int) := aD
         have q305 : (ji25) < (x4_3.length : Int) := aD
         obtain ⟨ad305, e305, hx305_0⟩ := Kd.at_int (Kd.R_reads' HO_4.out).2.2 (ji25) p305 q305
         cases e305
         replace p305 := eq_true p305
         replace q305 := eq_true q305
         have hcz30_0 : wr.cell? ⟨gb302, 0, none⟩ = some (.int .i64 ((rd_T74 l0 x28_2).f0)) := (blk_cell BK302.out 0).trans rfl
         have hcz30_1 : wr.cell? ⟨gb302, 1, none⟩ = some (.string ((rd_T74 l0 x28_2).f1)) := (blk_cell BK302.out 1).trans rfl
         have hcz30_2 : wr.cell? ⟨gb302, 2, none⟩ = some (.string ((rd_T74 l0 x28_2).f2)) := (blk_cell BK302.out 2).trans rfl
         have hcz30_3 : wr.cell? ⟨gb302, 3, none⟩ = some (.slice A301_3 ((rd_T74 l0 x28_2).f3).length c301_3) := (blk_cell BK302.out 3).trans rfl
         have hfz30_0 := blk_frozen BK302.out 0
         have hfz30_1 := blk_frozen BK302.out 1
         have hfz30_2 := blk_frozen BK302.out 2
         have hfz30_3 := blk_frozen BK302.out 3
         go_wp2
         repeat (go_quiet (fail); try go_wp2)
         go_meet
         case rel => exact ⟨_, (x4_3), H', ⟨by have := HJ1.out; have := HK2.out; have := HK3.out; first | omega | exact Nat.le_refl _⟩, ⟨aP HO_4.out⟩, ⟨aP BK302.out⟩, ⟨aE⟩⟩
        rw [if_neg c28] at H
        have c28b0 : ((rd x4_3 (ji25)) == ((rd_T74 l0 x28_2).f0)) = false := beq_eq_false_iff_ne.mpr c28
        have c28b1 : ((rd x4_3 (ji25)) != ((rd_T74 l0 x28_2).f0)) = true := bne_iff_ne.mpr c28
        by_cases c31 : (ji25) ≤ (x4_3.length : Int)
        rotate_left
        ·rw [if_neg c31] at H
         exact absurd H (by simp)
        rw [if_pos c31] at H
        have c31b0 := eq_true c31
        have c31b1 : decide ((ji25) ≤ (x4_3.length : Int)) = true := decide_eq_true c31
        clear c31
        obtain ⟨y306, hy306⟩ : ∃ y_ : List Int, y_ = (x4_3.take ((ji25) : Int).toNat) := ⟨_, rfl⟩
        replace H : (impl_DocOk.l1 k3 l0 (wrap64 (x3_2 + t304)) y306 x28_2 l0 (l0.length : Int) x28_2 ((rd_T74 l0 x28_2).f0) ((rd_T74 l0 x28_2).f1) ((rd_T74 l0 x28_2).f2) ((rd_T74 l0 x28_2).f3)) = some r := by first | (rw [hy306]; with_reducible exact H) | (have H2_ := (Option.bind_some _ _).symm.trans H; rw [hy306]; with_reducible exact H2_) | (have H2_ := (Option.bind_some _ _).symm.trans H; with_reducible exact H2_) | with_reducible exact H | (rw [hy306]; exact H) | exact H
        have Ny306 := Aside0.mk hy306
        clear hy306
        have H' := Aside0.mk H
        clear H
        obtain ⟨Ao32, co32, eo32⟩ := Kd.R_slice HO_4.out
        subst eo32
        have p305 : 0 ≤ ((ji25) : Int) := aD
        have q305 : (ji25) < (x4_3.length : Int) := aD
        obtain ⟨ad305, e305, hx305_0⟩ := Kd.at_int (Kd.R_reads' HO_4.out).2.2 (ji25) p305 q305
        cases e305
        replace p305 := eq_true p305
        replace q305 := eq_true q305
        have hcz33_0 : wr.cell? ⟨gb302, 0, none⟩ = some (.int .i64 ((rd_T74 l0 x28_2).f0)) := (blk_cell BK302.out 0).trans rfl
        have hcz33_1 : wr.cell? ⟨gb302, 1, none⟩ = some (.string ((rd_T74 l0 x28_2).f1)) := (blk_cell BK302.out 1).trans rfl
        have hcz33_2 : wr.cell? ⟨gb302, 2, none⟩ = some (.string ((rd_T74 l0 x28_2).f2)) := (blk_cell BK302.out 2).trans rfl
        have hcz33_3 : wr.cell? ⟨gb302, 3, none⟩ = some (.slice A301_3 ((rd_T74 l0 x28_2).f3).length c301_3) := (blk_cell BK302.out 3).trans rfl
        have hfz33_0 := blk_frozen BK302.out 0
        have hfz33_1 := blk_frozen BK302.out 1
        have hfz33_2 := blk_frozen BK302.out 2
        have hfz33_3 := blk_frozen BK302.out 3
        have q34 : ((ji25) : Int) ≤ ((x4_3.length : Int) : Int) := aD
        obtain ⟨i034, hi034, _, hsz34, _⟩ := info_parts info2
        have hcut34 := cut_to (P := Tryd.prog) 38 2 .i64 Tryd.underlying38 hi034 (some ad305) x4_3.length co32 (ji25) (aD) q34 (Kd.R_reads' HO_4.out).2.1
        have hr34 := Kd.R_take (m := ((ji25) : Int).toNat) HO_4.out (by omega)
        have hy34 : y306.length = ((ji25) : Int).toNat := (by rw [Ny306.out, List.length_take]; omega)
        rw [← Ny306.out] at hr34
        rw [← hy34] at hr34 hcut34
        clear hy34 hi034 hsz34 HO_4
        have HO308 := Aside0.mk hr34
        clear hr34
        replace q34 := eq_true q34
        go_wp2
        repeat (go_quiet (fail); try go_wp2)
        go_roundg k3
        case measure => have := HJ1.out; have := HK2.out; have := HK3.out; omega
        case rel => exact ⟨(y306), H', ⟨by have := HJ1.out; have := HK2.out; have := HK3.out; omega⟩, ⟨aP HO308.out⟩, ⟨aP BK302.out⟩, ⟨aE⟩⟩
     case rest =>
      clear HC16
      try clear c1
      try clear c2
      try clear p2
      try clear q2
      try clear hx2
      try clear qi2
      try clear c3
      try clear p3
      try clear q3
      try clear hx3
      try clear c4
      try clear c5
      try clear c5b0
      try clear c5b1
      try clear c6
      try clear c6b0
      try clear c6b1
      try clear p6
      try clear c7
      try clear c10
      try clear c10b0
      try clear c11
      try clear c11b0
      try clear c12
      try clear c12b0
      try clear c14
      try clear c18
      try clear c24
      try clear c24b0
      try clear c24b1
      try clear c26
      try clear c26b0
      try clear c27
      try clear c27b0
      try clear c28
      try clear c28b0
      try clear c28b1
      try clear c29
      try clear p29
      try clear q29
      try clear hx29
      try clear qi29
      try clear c30
      try clear p30
      try clear q30
      try clear hx30
      try clear c31
      try clear c31b0
      try clear c31b1
      try clear q34
      try clear hcz18_0
      try clear hcz18_1
      try clear hcz18_2
      try clear hcz18_3
      try clear hcz20_0
      try clear hcz20_1
      try clear hcz20_2
      try clear hcz20_3
      try clear hcz22_0
      try clear hcz22_1
      try clear hcz22_2
      try clear hcz22_3
      try clear hcz30_0
      try clear hcz30_1
      try clear hcz30_2
      try clear hcz30_3
      try clear hcz33_0
      try clear hcz33_1
      try clear hcz33_2
      try clear hcz33_3
      try clear hfz18_0
      try clear hfz18_1
      try clear hfz18_2
      try clear hfz18_3
      try clear hfz20_0
      try clear hfz20_1
      try clear hfz20_2
      try clear hfz20_3
      try clear hfz22_0
      try clear hfz22_1
      try clear hfz22_2
      try clear hfz22_3
      try clear hfz30_0
      try clear hfz30_1
      try clear hfz30_2
      try clear hfz30_3
      try clear hfz33_0
      try clear hfz33_1
      try clear hfz33_2
      try clear hfz33_3
      try clear hx296_0
      try clear hx296_1
      try clear hx296_2
      try clear hx296_3
      try clear hx297_0
      try clear hx297_1
      try clear hx297_2
      try clear hx297_3
      try clear hx301_0
      try clear hx301_1
      try clear hx301_2
      try clear hx301_3
      try clear hx305_0
      try clear p2
      try clear p296
      try clear p297
      try clear p3
      try clear p301
      try clear p305
      try clear p6
      try clear q2
      try clear q296
      try clear q297
      try clear q3
      try clear q301
      try clear q305
      try clear q34
      obtain ⟨kq, x4_15, HA, HJ15, HO_4, BK302, HB⟩ := hcut
      cases kq with
      | zero => exact absurd HA.out (by simp [impl_DocOk.j3])
      | succ kj15 =>
       have H := HA.out
       clear HA
       simp only [impl_DocOk.j3] at H
       have HC36 := Aside0.mk H
       clear H
       go_upto_region 12 with (fail)
       repeat (go_quiet (fail); go_upto_region 12 with (fail))
       go_cut [70] (fun v70 wc => ∃ (kq : Nat) (x70_35 : Bool), v70 = .bool x70_35 ∧ Aside0 (impl_DocOk.j4 kq l0 (wrap64 (x3_2 + t304)) x4_15 x28_2 l0 (l0.length : Int) x28_2 x70_35 ((rd_T74 l0 x28_2).f0) ((rd_T74 l0 x28_2).f1) ((rd_T74 l0 x28_2).f2) ((rd_T74 l0 x28_2).f3) = some r) ∧ Aside0 (kq ≤ kj15) ∧ Aside0 (Kd.R (Kd.int .i64) 2 wc w.heap.size (fun _ => True) u4 x4_15) ∧ Aside0 (wc.heap[gb302]? = some (.cells #[.int .i64 ((rd_T74 l0 x28_2).f0), .string ((rd_T74 l0 x28_2).f1), .string ((rd_T74 l0 x28_2).f2), (.slice A301_3 ((rd_T74 l0 x28_2).f3).length c301_3)] 74 (0, 0))) ∧ Aside0 (Below w.heap.size w wc))
       case first =>
        have H := HC36.out
        clear HC36
        by_cases c37 : x28_2 > 0
        rotate_left
        ·rw [if_neg c37] at H
         have c37b0 : decide (0 < x28_2) = false := decide_eq_false c37
         clear c37
         (first | rw [c37b0] | (simp only [i64_w, i32_w]; rw [c37b0]) | skip)
         have H' := Aside0.mk H
         clear H
         obtain ⟨Ao41, co41, eo41⟩ := Kd.R_slice HO_4.out
         subst eo41
         go_wp2
         repeat (go_quiet (fail); try go_wp2)
         go_meet
         case rel => exact ⟨_, (decide ((x4_15.length : Int) ≥ 20)), aR, H', ⟨by have := HJ1.out; have := HK2.out; have := HJ15.out; first | omega | exact Nat.le_refl _⟩, ⟨aP HO_4.out⟩, ⟨aP BK302.out⟩, ⟨aE⟩⟩
        rw [if_pos c37] at H
        have c37b0 : decide (0 < x28_2) = true := decide_eq_true c37
        clear c37
        (first | rw [c37b0] | (simp only [i64_w, i32_w]; rw [c37b0]) | skip)
        by_cases c38 : (x4_15.length : Int) = 0
        ·rw [if_pos c38] at H
         have c38b0 : ((x4_15.length : Int) == 0) = true := beq_iff_eq.mpr c38
         have c38b1 : ((x4_15.length : Int) != 0) = false := bne_eq_false_iff_eq.mpr c38
         clear c38
         have H' := Aside0.mk H
         clear H
         obtain ⟨Ao39, co39, eo39⟩ := Kd.R_slice HO_4.out
         subst eo39
         go_wp2
         repeat (go_quiet (fail); try go_wp2)
         go_meet
         case rel => exact ⟨_, (true), aR, H', ⟨by have := HJ1.out; have := HK2.out; have := HJ15.out; first | omega | exact Nat.le_refl _⟩, ⟨aP HO_4.out⟩, ⟨aP BK302.out⟩, ⟨aE⟩⟩
        rw [if_neg c38] at H
        have c38b0 : ((x4_15.length : Int) == 0) = false := beq_eq_false_iff_ne.mpr c38
        have c38b1 : ((x4_15.length : Int) != 0) = true := bne_iff_ne.mpr c38
        have c38b2 : ¬ (x4_15 = []) := fun h_ => c38 (by rw [h_]; rfl)
        have H' := Aside0.mk H
        clear H
        obtain ⟨Ao40, co40, eo40⟩ := Kd.R_slice HO_4.out
        subst eo40
        go_wp2
        repeat (go_quiet (fail); try go_wp2)
        go_meet
        case rel => exact ⟨_, (decide ((x4_15.length : Int) ≥ 20)), aR, H', ⟨by have := HJ1.out; have := HK2.out; have := HJ15.out; first | omega | exact Nat.le_refl _⟩, ⟨aP HO_4.out⟩, ⟨aP BK302.out⟩, ⟨aE⟩⟩
       case rest =>
        clear HC36
        try clear c1
        try clear c2
        try clear p2
        try clear q2
        try clear hx2
        try clear qi2
        try clear c3
        try clear p3
        try clear q3
        try clear hx3
        try clear c4
        try clear c5
        try clear c5b0
        try clear c5b1
        try clear c6
        try clear c6b0
        try clear c6b1
        try clear p6
        try clear c7
        try clear c10
        try clear c10b0
        try clear c11
        try clear c11b0
        try clear c12
        try clear c12b0
        try clear c14
        try clear c18
        try clear c24
        try clear c24b0
        try clear c24b1
        try clear c26
        try clear c26b0
        try clear c27
        try clear c27b0
        try clear c28
        try clear c28b0
        try clear c28b1
        try clear c29
        try clear p29
        try clear q29
        try clear hx29
        try clear qi29
        try clear c30
        try clear p30
        try clear q30
        try clear hx30
        try clear c31
        try clear c31b0
        try clear c31b1
        try clear q34
        try clear c37
        try clear c37b0
        try clear c38
        try clear c38b0
        try clear c38b1
        try clear c38b2
        try clear hcz18_0
        try clear hcz18_1
        try clear hcz18_2
        try clear hcz18_3
        try clear hcz20_0
        try clear hcz20_1
        try clear hcz20_2
        try clear hcz20_3
        try clear hcz22_0
        try clear hcz22_1
        try clear hcz22_2
        try clear hcz22_3
        try clear hcz30_0
        try clear hcz30_1
        try clear hcz30_2
        try clear hcz30_3
        try clear hcz33_0
        try clear hcz33_1
        try clear hcz33_2
        try clear hcz33_3
        try clear hfz18_0
        try clear hfz18_1
        try clear hfz18_2
        try clear hfz18_3
        try clear hfz20_0
        try clear hfz20_1
        try clear hfz20_2
        try clear hfz20_3
        try clear hfz22_0
        try clear hfz22_1
        try clear hfz22_2
        try clear hfz22_3
        try clear hfz30_0
        try clear hfz30_1
        try clear hfz30_2
        try clear hfz30_3
        try clear hfz33_0
        try clear hfz33_1
        try clear hfz33_2
        try clear hfz33_3
        try clear hx296_0
        try clear hx296_1
        try clear hx296_2
        try clear hx296_3
        try clear hx297_0
        try clear hx297_1
        try clear hx297_2
        try clear hx297_3
        try clear hx301_0
        try clear hx301_1
        try clear hx301_2
        try clear hx301_3
        try clear hx305_0
        try clear p2
        try clear p29
        try clear p296
        try clear p297
        try clear p3
        try clear p30
        try clear p301
        try clear p305
        try clear p6
        try clear q2
        try clear q29
        try clear q296
        try clear q297
        try clear q3
        try clear q30
        try clear q301
        try clear q305
        try clear q34
        obtain ⟨kq, x70_35, rfl, HA, HJ35, HO_4, BK302, HB⟩ := hcut
        cases kq with
        | zero => exact absurd HA.out (by simp [impl_DocOk.j4])
        | succ kj35 =>
         have H := HA.out
         clear HA
         simp only [impl_DocOk.j4] at H
         by_cases c42 : x70_35 = true
         ·subst c42
          have H1 : (some false) = some r := by rw [if_pos rfl] at H; exact H
          clear H
          have H := H1
          clear H1
          obtain rfl := Option.some.inj H
          go_wp2
          repeat (go_quiet (fail); try go_wp2)
          go_ret
          exact ⟨by first | rfl | (simp only [aX1, aX2]; rfl) | (simp [*] <;> rfl), aE⟩
         replace c42 := Bool.eq_false_iff.mpr c42
         subst c42
         have H1 : (if ((rd_T74 l0 x28_2).f1).toList = ([] : List UInt8) then (if x28_2 > 0 then (if 0 ≤ (wrap64 (x28_2 - 1)) then (if (wrap64 (x28_2 - 1)) < (l0.length : Int) then (if ((rd_T74 l0 (wrap64 (x28_2 - 1))).f1).toList = ([] : List UInt8) then (if ((rd_T74 l0 (wrap64 (x28_2 - 1))).f0) = ((rd_T74 l0 x28_2).f0) then (some false) else (impl_DocOk.l0 kj35 l0 (wrap64 (x3_2 + t304)) x4_15 l0 (l0.length : Int) (wrap64 (x28_2 + 1)))) else (impl_DocOk.l0 kj35 l0 (wrap64 (x3_2 + t304)) x4_15 l0 (l0.length : Int) (wrap64 (x28_2 + 1)))) else (none)) else (none)) else (impl_DocOk.l0 kj35 l0 (wrap64 (x3_2 + t304)) x4_15 l0 (l0.length : Int) (wrap64 (x28_2 + 1)))) else (if x4_15.length < 17592186044416 then (impl_DocOk.l0 kj35 l0 (wrap64 (x3_2 + t304)) (x4_15 ++ [x28_2]) l0 (l0.length : Int) (wrap64 (x28_2 + 1))) else (none))) = some r := by rw [if_neg (show ¬ (false = true) by decide)] at H; exact H
         clear H
         have H := H1
         clear H1
         by_cases c43 : ((rd_T74 l0 x28_2).f1).toList = ([] : List UInt8)
         rotate_left
         ·rw [if_neg c43] at H
          have c43b0 : (((rd_T74 l0 x28_2).f1).toList == ([] : List UInt8)) = false := beq_eq_false_iff_ne.mpr c43
          have c43b1 : (((rd_T74 l0 x28_2).f1).toList != ([] : List UInt8)) = true := bne_iff_ne.mpr c43
          have c43b2 : (((rd_T74 l0 x28_2).f1)).toList.isEmpty = false := by (first | exact (List.isEmpty_iff.mpr (eq_of_beq c43b0)) | exact (Bool.eq_false_iff.mpr (fun h_ => by rw [List.isEmpty_iff.mp h_] at c43b0; cases c43b0)))
          by_cases c54 : x4_15.length < 17592186044416
          rotate_left
          ·rw [if_neg c54] at H
           exact absurd H (by simp)
          rw [if_pos c54] at H
          have LMc54 := Aside0.mk c54
          clear c54
          obtain ⟨y311, hy311⟩ : ∃ y_ : List Int, y_ = (x4_15 ++ [x28_2]) := ⟨_, rfl⟩
          replace H : (impl_DocOk.l0 kj35 l0 (wrap64 (x3_2 + t304)) y311 l0 (l0.length : Int) (wrap64 (x28_2 + 1))) = some r := by first | (rw [hy311]; with_reducible exact H) | (have H2_ := (Option.bind_some _ _).symm.trans H; rw [hy311]; with_reducible exact H2_) | (have H2_ := (Option.bind_some _ _).symm.trans H; with_reducible exact H2_) | with_reducible exact H | (rw [hy311]; exact H) | exact H
          have Ny311 := Aside0.mk hy311
          clear hy311
          have H' := Aside0.mk H
          clear H
          have hcz55_0 : wc.cell? ⟨gb302, 0, none⟩ = some (.int .i64 ((rd_T74 l0 x28_2).f0)) := (blk_cell BK302.out 0).trans rfl
          have hcz55_1 : wc.cell? ⟨gb302, 1, none⟩ = some (.string ((rd_T74 l0 x28_2).f1)) := (blk_cell BK302.out 1).trans rfl
          have hcz55_2 : wc.cell? ⟨gb302, 2, none⟩ = some (.string ((rd_T74 l0 x28_2).f2)) := (blk_cell BK302.out 2).trans rfl
          have hcz55_3 : wc.cell? ⟨gb302, 3, none⟩ = some (.slice A301_3 ((rd_T74 l0 x28_2).f3).length c301_3) := (blk_cell BK302.out 3).trans rfl
          have hfz55_0 := blk_frozen BK302.out 0
          have hfz55_1 := blk_frozen BK302.out 1
          have hfz55_2 := blk_frozen BK302.out 2
          have hfz55_3 := blk_frozen BK302.out 3
          go_wp2_with (first | ((with_reducible refine gate_builtin (b := .append) (xs := #[.tmp 74, .tmp 76]) rfl ?_); (try (refine gate_guard (by rfl) ?_; dsimp only)); at_builtin; refine Kd.R_append (Kd.int .i64) (w0 := w) w.heap.size rfl (.tmp 74) (.tmp 76) 38 2 (.int .i64 0) 8 rfl Tryd.underlying38 info2 rfl (by decide) (by omega) u4 x4_15 x28_2 [.int .i64 x28_2] (fun _ => True) (fun _ => False) rfl rfl ?aP (fun _ hk => hk.elim) ?aF ?aO ?aB ?aS ?aL ?_; (case aP => exact rfl); (case aB => exact aE); (case aF => exact (fun _ _ => trivial)); (case aO => exact (aP HO_4.out)); (case aS => exact (below_size aE)); (case aL => have := LMc54.out; omega); intro v312 w56 ho hb hg hat; rw [← Ny311.out] at ho; have n0_ := Aside0.mk (blk_grown (g := gb302) (o := .cells #[.int .i64 ((rd_T74 l0 x28_2).f0), .string ((rd_T74 l0 x28_2).f1), .string ((rd_T74 l0 x28_2).f2), .slice A301_3 ((rd_T74 l0 x28_2).f3).length c301_3] 74 (0, 0)) (aP BK302.out) hg (Kd.R_ne HO_4.out BK302.out (by decide))); have n1_ := Aside0.mk (hb); have n2_ := Aside0.mk (ho); clear BK302; clear HB; clear HO_4; have BK302 := n0_; have HB := n1_; have HO313 := n2_; clear n0_ n1_ n2_; clear ho hb hg hat))
          repeat (go_quiet (first | ((with_reducible refine gate_builtin (b := .append) (xs := #[.tmp 74, .tmp 76]) rfl ?_); (try (refine gate_guard (by rfl) ?_; dsimp only)); at_builtin; refine Kd.R_append (Kd.int .i64) (w0 := w) w.heap.size rfl (.tmp 74) (.tmp 76) 38 2 (.int .i64 0) 8 rfl Tryd.underlying38 info2 rfl (by decide) (by omega) u4 x4_15 x28_2 [.int .i64 x28_2] (fun _ => True) (fun _ => False) rfl rfl ?aP (fun _ hk => hk.elim) ?aF ?aO ?aB ?aS ?aL ?_; (case aP => exact rfl); (case aB => exact aE); (case aF => exact (fun _ _ => trivial)); (case aO => exact (aP HO_4.out)); (case aS => exact (below_size aE)); (case aL => have := LMc54.out; omega); intro v312 w56 ho hb hg hat; rw [← Ny311.out] at ho; have n0_ := Aside0.mk (blk_grown (g := gb302) (o := .cells #[.int .i64 ((rd_T74 l0 x28_2).f0), .string ((rd_T74 l0 x28_2).f1), .string ((rd_T74 l0 x28_2).f2), .slice A301_3 ((rd_T74 l0 x28_2).f3).length c301_3] 74 (0, 0)) (aP BK302.out) hg (Kd.R_ne HO_4.out BK302.out (by decide))); have n1_ := Aside0.mk (hb); have n2_ := Aside0.mk (ho); clear BK302; clear HB; clear HO_4; have BK302 := n0_; have HB := n1_; have HO313 := n2_; clear n0_ n1_ n2_; clear ho hb hg hat)); try go_wp2_with (first | ((with_reducible refine gate_builtin (b := .append) (xs := #[.tmp 74, .tmp 76]) rfl ?_); (try (refine gate_guard (by rfl) ?_; dsimp only)); at_builtin; refine Kd.R_append (Kd.int .i64) (w0 := w) w.heap.size rfl (.tmp 74) (.tmp 76) 38 2 (.int .i64 0) 8 rfl Tryd.underlying38 info2 rfl (by decide) (by omega) u4 x4_15 x28_2 [.int .i64 x28_2] (fun _ => True) (fun _ => False) rfl rfl ?aP (fun _ hk => hk.elim) ?aF ?aO ?aB ?aS ?aL ?_; (case aP => exact rfl); (case aB => exact aE); (case aF => exact (fun _ _ => trivial)); (case aO => exact (aP HO_4.out)); (case aS => exact (below_size aE)); (case aL => have := LMc54.out; omega); intro v312 w56 ho hb hg hat; rw [← Ny311.out] at ho; have n0_ := Aside0.mk (blk_grown (g := gb302) (o := .cells #[.int .i64 ((rd_T74 l0 x28_2).f0), .string ((rd_T74 l0 x28_2).f1), .string ((rd_T74 l0 x28_2).f2), .slice A301_3 ((rd_T74 l0 x28_2).f3).length c301_3] 74 (0, 0)) (aP BK302.out) hg (Kd.R_ne HO_4.out BK302.out (by decide))); have n1_ := Aside0.mk (hb); have n2_ := Aside0.mk (ho); clear BK302; clear HB; clear HO_4; have BK302 := n0_; have HB := n1_; have HO313 := n2_; clear n0_ n1_ n2_; clear ho hb hg hat)))
          go_roundg kj35
          case measure => have := HJ1.out; have := HK2.out; have := HJ15.out; have := HJ35.out; omega
          case rel => exact ⟨((wrap64 (x3_2 + t304))), (y311), (wrap64 (x28_2 + 1)), aR, aR, H', ⟨by have := HJ1.out; have := HK2.out; have := HJ15.out; have := HJ35.out; omega⟩, ⟨aP HO313.out⟩, ⟨aE⟩⟩
         rw [if_pos c43] at H
         have c43b0 : (((rd_T74 l0 x28_2).f1).toList == ([] : List UInt8)) = true := beq_iff_eq.mpr c43
         have c43b1 : (((rd_T74 l0 x28_2).f1).toList != ([] : List UInt8)) = false := bne_eq_false_iff_eq.mpr c43
         have c43b2 : (((rd_T74 l0 x28_2).f1)).toList.isEmpty = true := by (first | exact (List.isEmpty_iff.mpr (eq_of_beq c43b0)) | exact (Bool.eq_false_iff.mpr (fun h_ => by rw [List.isEmpty_iff.mp h_] at c43b0; cases c43b0)))
         clear c43
         by_cases c44 : x28_2 > 0
         rotate_left
         ·rw [if_neg c44] at H
          have c44b0 : decide (0 < x28_2) = false := decide_eq_false c44
          clear c44
          have H' := Aside0.mk H
          clear H
          have hcz53_0 : wc.cell? ⟨gb302, 0, none⟩ = some (.int .i64 ((rd_T74 l0 x28_2).f0)) := (blk_cell BK302.out 0).trans rfl
          have hcz53_1 : wc.cell? ⟨gb302, 1, none⟩ = some (.string ((rd_T74 l0 x28_2).f1)) := (blk_cell BK302.out 1).trans rfl
          have hcz53_2 : wc.cell? ⟨gb302, 2, none⟩ = some (.string ((rd_T74 l0 x28_2).f2)) := (blk_cell BK302.out 2).trans rfl
          have hcz53_3 : wc.cell? ⟨gb302, 3, none⟩ = some (.slice A301_3 ((rd_T74 l0 x28_2).f3).length c301_3) := (blk_cell BK302.out 3).trans rfl
          have hfz53_0 := blk_frozen BK302.out 0
          have hfz53_1 := blk_frozen BK302.out 1
          have hfz53_2 := blk_frozen BK302.out 2
          have hfz53_3 := blk_frozen BK302.out 3
          go_wp2
          repeat (go_quiet (fail); try go_wp2)
          go_roundg kj35
          case measure => have := HJ1.out; have := HK2.out; have := HJ15.out; have := HJ35.out; omega
          case rel => exact ⟨((wrap64 (x3_2 + t304))), (x4_15), (wrap64 (x28_2 + 1)), aR, aR, H', ⟨by have := HJ1.out; have := HK2.out; have := HJ15.out; have := HJ35.out; omega⟩, ⟨aP HO_4.out⟩, ⟨aE⟩⟩
         rw [if_pos c44] at H
         have c44b0 : decide (0 < x28_2) = true := decide_eq_true c44
         clear c44
         obtain ⟨ji45, hji45⟩ : ∃ j_ : Int, (wrap64 (x28_2 - 1)) = j_ := ⟨_, rfl⟩
         replace H : (if 0 ≤ (ji45) then (if (ji45) < (l0.length : Int) then (if ((rd_T74 l0 (ji45)).f1).toList = ([] : List UInt8) then (if ((rd_T74 l0 (ji45)).f0) = ((rd_T74 l0 x28_2).f0) then (some false) else (impl_DocOk.l0 kj35 l0 (wrap64 (x3_2 + t304)) x4_15 l0 (l0.length : Int) (wrap64 (x28_2 + 1)))) else (impl_DocOk.l0 kj35 l0 (wrap64 (x3_2 + t304)) x4_15 l0 (l0.length : Int) (wrap64 (x28_2 + 1)))) else (none)) else (none)) = some r := by first | (rw [hji45] at H; exact H) | (simp only [hji45] at H ⊢; exact H)
         have hji45w : (IntKind.i64.wrap (x28_2 - 1)) = ji45 := (i64_w _).trans hji45
         by_cases c46 : 0 ≤ (ji45)
         rotate_left
         ·rw [if_neg c46] at H
          exact absurd H (by simp)
         rw [if_pos c46] at H
         have c46b0 : decide (0 ≤ (ji45)) = true := decide_eq_true c46
         clear c46
         by_cases c47 : (ji45) < (l0.length : Int)
         rotate_left
         ·rw [if_neg c47] at H
          exact absurd H (by simp)
         rw [if_pos c47] at H
         have c47b0 : decide ((ji45) < (l0.length : Int)) = true := decide_eq_true c47
         clear c47
         by_cases c48 : ((rd_T74 l0 (ji45)).f1).toList = ([] : List UInt8)
         rotate_left
         ·rw [if_neg c48] at H
          have c48b0 : (((rd_T74 l0 (ji45)).f1).toList == ([] : List UInt8)) = false := beq_eq_false_iff_ne.mpr c48
          have c48b1 : (((rd_T74 l0 (ji45)).f1).toList != ([] : List UInt8)) = true := bne_iff_ne.mpr c48
          have c48b2 : (((rd_T74 l0 (ji45)).f1)).toList.isEmpty = false := by (first | exact (List.isEmpty_iff.mpr (eq_of_beq c48b0)) | exact (Bool.eq_false_iff.mpr (fun h_ => by rw [List.isEmpty_iff.mp h_] at c48b0; cases c48b0)))
          have H' := Aside0.mk H
          clear H
          have hcz52_0 : wc.cell? ⟨gb302, 0, none⟩ = some (.int .i64 ((rd_T74 l0 x28_2).f0)) := (blk_cell BK302.out 0).trans rfl
          have hcz52_1 : wc.cell? ⟨gb302, 1, none⟩ = some (.string ((rd_T74 l0 x28_2).f1)) := (blk_cell BK302.out 1).trans rfl
          have hcz52_2 : wc.cell? ⟨gb302, 2, none⟩ = some (.string ((rd_T74 l0 x28_2).f2)) := (blk_cell BK302.out 2).trans rfl
          have hcz52_3 : wc.cell? ⟨gb302, 3, none⟩ = some (.slice A301_3 ((rd_T74 l0 x28_2).f3).length c301_3) := (blk_cell BK302.out 3).trans rfl
          have hfz52_0 := blk_frozen BK302.out 0
          have hfz52_1 := blk_frozen BK302.out 1
          have hfz52_2 := blk_frozen BK302.out 2
          have hfz52_3 := blk_frozen BK302.out 3
          have p309 : 0 ≤ ((ji45) : Int) := aD
          have q309 : (ji45) < (l0.length : Int) := aD
          obtain ⟨ad309, A309_3, c309_3, e309, hx309_0, hx309_1, hx309_2, hx309_3, hl309_3, hi309_3⟩ := at_T74 HR0.out (ji45) p309 q309
          obtain rfl : ad301 = ad309 := (by injection e309)
          replace hx309_0 := (HB.out.cell (World.block_lt_of_cell? w _ hx309_0)).trans hx309_0
          replace hx309_1 := (HB.out.cell (World.block_lt_of_cell? w _ hx309_1)).trans hx309_1
          replace hx309_2 := (HB.out.cell (World.block_lt_of_cell? w _ hx309_2)).trans hx309_2
          replace hx309_3 := (HB.out.cell (World.block_lt_of_cell? w _ hx309_3)).trans hx309_3
          have HR309_3 := Aside0.mk hi309_3
          have HC309_3 := Aside0.mk hl309_3
          clear hi309_3 hl309_3
          replace p309 := eq_true p309
          replace q309 := eq_true q309
          go_wp2
          repeat (go_quiet (fail); try go_wp2)
          go_roundg kj35
          case measure => have := HJ1.out; have := HK2.out; have := HJ15.out; have := HJ35.out; omega
          case rel => exact ⟨((wrap64 (x3_2 + t304))), (x4_15), (wrap64 (x28_2 + 1)), aR, aR, H', ⟨by have := HJ1.out; have := HK2.out; have := HJ15.out; have := HJ35.out; omega⟩, ⟨aP HO_4.out⟩, ⟨aE⟩⟩
         rw [if_pos c48] at H
         have c48b0 : (((rd_T74 l0 (ji45)).f1).toList == ([] : List UInt8)) = true := beq_iff_eq.mpr c48
         have c48b1 : (((rd_T74 l0 (ji45)).f1).toList != ([] : List UInt8)) = false := bne_eq_false_iff_eq.mpr c48
         have c48b2 : (((rd_T74 l0 (ji45)).f1)).toList.isEmpty = true := by (first | exact (List.isEmpty_iff.mpr (eq_of_beq c48b0)) | exact (Bool.eq_false_iff.mpr (fun h_ => by rw [List.isEmpty_iff.mp h_] at c48b0; cases c48b0)))
         clear c48
         by_cases c49 : ((rd_T74 l0 (ji45)).f0) = ((rd_T74 l0 x28_2).f0)
         ·rw [if_pos c49] at H
          have c49b0 : (((rd_T74 l0 (ji45)).f0) == ((rd_T74 l0 x28_2).f0)) = true := beq_iff_eq.mpr c49
          have c49b1 : (((rd_T74 l0 (ji45)).f0) != ((rd_T74 l0 x28_2).f0)) = false := bne_eq_false_iff_eq.mpr c49
          clear c49
          obtain rfl := Option.some.inj H
          have hcz50_0 : wc.cell? ⟨gb302, 0, none⟩ = some (.int .i64 ((rd_T74 l0 x28_2).f0)) := (blk_cell BK302.out 0).trans rfl
          have hcz50_1 : wc.cell? ⟨gb302, 1, none⟩ = some (.string ((rd_T74 l0 x28_2).f1)) := (blk_cell BK302.out 1).trans rfl
          have hcz50_2 : wc.cell? ⟨gb302, 2, none⟩ = some (.string ((rd_T74 l0 x28_2).f2)) := (blk_cell BK302.out 2).trans rfl
          have hcz50_3 : wc.cell? ⟨gb302, 3, none⟩ = some (.slice A301_3 ((rd_T74 l0 x28_2).f3).length c301_3) := (blk_cell BK302.out 3).trans rfl
          have hfz50_0 := blk_frozen BK302.out 0
          have hfz50_1 := blk_frozen BK302.out 1
          have hfz50_2 := blk_frozen BK302.out 2
          have hfz50_3 := blk_frozen BK302.out 3
          have p309 : 0 ≤ ((ji45) : Int) := aD
          have q309 : (ji45) < (l0.length : Int) := aD
          obtain ⟨ad309, A309_3, c309_3, e309, hx309_0, hx309_1, hx309_2, hx309_3, hl309_3, hi309_3⟩ := at_T74 HR0.out (ji45) p309 q309
          obtain rfl : ad301 = ad309 := (by injection e309)
          replace hx309_0 := (HB.out.cell (World.block_lt_of_cell? w _ hx309_0)).trans hx309_0
          replace hx309_1 := (HB.out.cell (World.block_lt_of_cell? w _ hx309_1)).trans hx309_1
          replace hx309_2 := (HB.out.cell (World.block_lt_of_cell? w _ hx309_2)).trans hx309_2
          replace hx309_3 := (HB.out.cell (World.block_lt_of_cell? w _ hx309_3)).trans hx309_3
          have HR309_3 := Aside0.mk hi309_3
          have HC309_3 := Aside0.mk hl309_3
          clear hi309_3 hl309_3
          replace p309 := eq_true p309
          replace q309 := eq_true q309
          have p310 : 0 ≤ ((ji45) : Int) := aD
          have q310 : (ji45) < (l0.length : Int) := aD
          obtain ⟨ad310, A310_3, c310_3, e310, hx310_0, hx310_1, hx310_2, hx310_3, hl310_3, hi310_3⟩ := at_T74 HR0.out (ji45) p310 q310
          obtain rfl : ad301 = ad310 := (by injection e310)
          replace hx310_0 := (HB.out.cell (World.block_lt_of_cell? w _ hx310_0)).trans hx310_0
          replace hx310_1 := (HB.out.cell (World.block_lt_of_cell? w _ hx310_1)).trans hx310_1
          replace hx310_2 := (HB.out.cell (World.block_lt_of_cell? w _ hx310_2)).trans hx310_2
          replace hx310_3 := (HB.out.cell (World.block_lt_of_cell? w _ hx310_3)).trans hx310_3
          have HR310_3 := Aside0.mk hi310_3
          have HC310_3 := Aside0.mk hl310_3
          clear hi310_3 hl310_3
          replace p310 := eq_true p310
          replace q310 := eq_true q310
          have ea_ := Option.some.inj (hx309_3.symm.trans hx310_3)
          injection ea_ with ea_ en_ ec_
          subst ea_
          subst ec_
          clear en_
          go_wp2
          repeat (go_quiet (fail); try go_wp2)
          go_ret
          exact ⟨by first | rfl | (simp only [aX1, aX2]; rfl) | (simp [errW_none, errW_some] <;> rfl) | (simp only [← hji45]; first | rfl | (simp [errW_none, errW_some] <;> rfl)) | (simp [*, errW_none, errW_some] <;> rfl), aE⟩
         rw [if_neg c49] at H
         have c49b0 : (((rd_T74 l0 (ji45)).f0) == ((rd_T74 l0 x28_2).f0)) = false := beq_eq_false_iff_ne.mpr c49
         have c49b1 : (((rd_T74 l0 (ji45)).f0) != ((rd_T74 l0 x28_2).f0)) = true := bne_iff_ne.mpr c49
         have H' := Aside0.mk H
         clear H
         have hcz51_0 : wc.cell? ⟨gb302, 0, none⟩ = some (.int .i64 ((rd_T74 l0 x28_2).f0)) := (blk_cell BK302.out 0).trans rfl
         have hcz51_1 : wc.cell? ⟨gb302, 1, none⟩ = some (.string ((rd_T74 l0 x28_2).f1)) := (blk_cell BK302.out 1).trans rfl
         have hcz51_2 : wc.cell? ⟨gb302, 2, none⟩ = some (.string ((rd_T74 l0 x28_2).f2)) := (blk_cell BK302.out 2).trans rfl
         have hcz51_3 : wc.cell? ⟨gb302, 3, none⟩ = some (.slice A301_3 ((rd_T74 l0 x28_2).f3).length c301_3) := (blk_cell BK302.out 3).trans rfl
         have hfz51_0 := blk_frozen BK302.out 0
         have hfz51_1 := blk_frozen BK302.out 1
         have hfz51_2 := blk_frozen BK302.out 2
         have hfz51_3 := blk_frozen BK302.out 3
         have p309 : 0 ≤ ((ji45) : Int) := aD
         have q309 : (ji45) < (l0.length : Int) := aD
         obtain ⟨ad309, A309_3, c309_3, e309, hx309_0, hx309_1, hx309_2, hx309_3, hl309_3, hi309_3⟩ := at_T74 HR0.out (ji45) p309 q309
         obtain rfl : ad301 = ad309 := (by injection e309)
         replace hx309_0 := (HB.out.cell (World.block_lt_of_cell? w _ hx309_0)).trans hx309_0
         replace hx309_1 := (HB.out.cell (World.block_lt_of_cell? w _ hx309_1)).trans hx309_1
         replace hx309_2 := (HB.out.cell (World.block_lt_of_cell? w _ hx309_2)).trans hx309_2
         replace hx309_3 := (HB.out.cell (World.block_lt_of_cell? w _ hx309_3)).trans hx309_3
         have HR309_3 := Aside0.mk hi309_3
         have HC309_3 := Aside0.mk hl309_3
         clear hi309_3 hl309_3
         replace p309 := eq_true p309
         replace q309 := eq_true q309
         have p310 : 0 ≤ ((ji45) : Int) := aD
         have q310 : (ji45) < (l0.length : Int) := aD
         obtain ⟨ad310, A310_3, c310_3, e310, hx310_0, hx310_1, hx310_2, hx310_3, hl310_3, hi310_3⟩ := at_T74 HR0.out (ji45) p310 q310
         obtain rfl : ad301 = ad310 := (by injection e310)
         replace hx310_0 := (HB.out.cell (World.block_lt_of_cell? w _ hx310_0)).trans hx310_0
         replace hx310_1 := (HB.out.cell (World.block_lt_of_cell? w _ hx310_1)).trans hx310_1
         replace hx310_2 := (HB.out.cell (World.block_lt_of_cell? w _ hx310_2)).trans hx310_2
         replace hx310_3 := (HB.out.cell (World.block_lt_of_cell? w _ hx310_3)).trans hx310_3
         have HR310_3 := Aside0.mk hi310_3
         have HC310_3 := Aside0.mk hl310_3
         clear hi310_3 hl310_3
         replace p310 := eq_true p310
         replace q310 := eq_true q310
         have ea_ := Option.some.inj (hx309_3.symm.trans hx310_3)
         injection ea_ with ea_ en_ ec_
         subst ea_
         subst ec_
         clear en_
         go_wp2
         repeat (go_quiet (fail); try go_wp2)
         go_roundg kj35
         case measure => have := HJ1.out; have := HK2.out; have := HJ15.out; have := HJ35.out; omega
         case rel => exact ⟨((wrap64 (x3_2 + t304))), (x4_15), (wrap64 (x28_2 + 1)), aR, aR, H', ⟨by have := HJ1.out; have := HK2.out; have := HJ15.out; have := HJ35.out; omega⟩, ⟨aP HO_4.out⟩, ⟨aE⟩⟩
end Go.Proofs.YtbhklkpjjpkblaaDoor.PI
