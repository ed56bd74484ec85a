import Derived.Test.YtbhklkpjjpkblaaGreatDoorHShort
import Derived.Test.YtbhklkpjjpkblaaGreatDoorPPx0
import Derived.Test.YtbhklkpjjpkblaaGreatDoorPPx8
import Derived.Test.YtbhklkpjjpkblaaGreatDoorPPx11
import Derived.Test.YtbhklkpjjpkblaaGreatDoorPPx12
namespace Go.Proofs.YtbhklkpjjpkblaaGreatDoor.PP
open Go.RowKit Go.Proofs.YtbhklkpjjpkblaaGreatDoorW.PrintWords Go.Proofs.YtbhklkpjjpkblaaGreatDoorW.PrintLast Go.Proofs.YtbhklkpjjpkblaaGreatDoorW.PrintMore Go.Proofs.YtbhklkpjjpkblaaGreatDoorW.WordsB Go.Proofs.YtbhklkpjjpkblaaGreatDoorW.GlM Go.Proofs.YtbhklkpjjpkblaaGreatDoorW.Short
attribute [local go_sem] max2_int min2_int max_two min_two max_three min_three max_four min_four
set_option linter.unusedVariables false
set_option linter.unusedSimpArgs false
mutual
def impl_DocOk.j0 : Nat → List (S39) → Bool → Option (Bool)
 | 0, _, _ => none
 | k + 1, x0, x24 => if x24 = true then (some false) else (impl_DocOk.l0 k x0 0 (([] : List Int)) x0 (x0.length : Int) 0)
def impl_DocOk.l0 : Nat → List (S39) → Int → List Int → List (S39) → Int → Int → Option (Bool)
 | 0, _, _, _, _, _, _ => none
 | k + 1, x0, x3, x4, x26, x27, x28 => if x28 < x27 then (if 0 ≤ x28 then (if x28 < (x26.length : Int) then ((impl_Item_isGood.f k ((rd_T39 x26 x28).f0) ((rd_T39 x26 x28).f1) ((rd_T39 x26 x28).f2) ((rd_T39 x26 x28).f3)).bind fun t245 => (if t245 = true then ((impl_Item_bytes.f k ((rd_T39 x26 x28).f0) ((rd_T39 x26 x28).f1) ((rd_T39 x26 x28).f2) ((rd_T39 x26 x28).f3)).bind fun t246 => (impl_DocOk.l1 k x0 (wrap64 (x3 + t246)) x4 x28 x26 x27 x28 ((rd_T39 x26 x28).f0) ((rd_T39 x26 x28).f1) ((rd_T39 x26 x28).f2) ((rd_T39 x26 x28).f3))) else (some false))) else (none)) else (none)) else (some (decide (x3 ≤ 2500)))
def impl_DocOk.j3 : Nat → List (S39) → Int → List Int → Int → List (S39) → Int → Int → Int → ByteArray → ByteArray → List (S52) → Option (Bool)
 | 0, _, _, _, _, _, _, _, _, _, _, _ => none
 | k + 1, x0, x3, x4, x5, x26, x27, x28, x245000, x245001, x245002, x245003 => if x5 > 0 then (if (x4.length : Int) = 0 then (impl_DocOk.j4 k x0 x3 x4 x5 x26 x27 x28 true x245000 x245001 x245002 x245003) else (impl_DocOk.j4 k x0 x3 x4 x5 x26 x27 x28 (decide ((x4.length : Int) ≥ 20)) x245000 x245001 x245002 x245003)) else (impl_DocOk.j4 k x0 x3 x4 x5 x26 x27 x28 (decide ((x4.length : Int) ≥ 20)) x245000 x245001 x245002 x245003)
def impl_DocOk.j4 : Nat → List (S39) → Int → List Int → Int → List (S39) → Int → Int → Bool → Int → ByteArray → ByteArray → List (S52) → Option (Bool)
 | 0, _, _, _, _, _, _, _, _, _, _, _, _ => none
 | k + 1, x0, x3, x4, x5, x26, x27, x28, x70, x245000, x245001, x245002, x245003 => if x70 = true then (some false) else (if x245001.toList = ([] : List UInt8) then (if x5 > 0 then (if 0 ≤ (wrap64 (x5 - 1)) then (if (wrap64 (x5 - 1)) < (x0.length : Int) then (if ((rd_T39 x0 (wrap64 (x5 - 1))).f1).toList = ([] : List UInt8) then (if ((rd_T39 x0 (wrap64 (x5 - 1))).f0) = x245000 then (some false) else (impl_DocOk.l0 k x0 x3 x4 x26 x27 (wrap64 (x28 + 1)))) else (impl_DocOk.l0 k x0 x3 x4 x26 x27 (wrap64 (x28 + 1)))) else (none)) else (none)) else (impl_DocOk.l0 k x0 x3 x4 x26 x27 (wrap64 (x28 + 1)))) else (if x4.length < 17592186044416 then (impl_DocOk.l0 k x0 x3 (x4 ++ [x5]) x26 x27 (wrap64 (x28 + 1))) else (none)))
def impl_DocOk.l1 : Nat → List (S39) → Int → List Int → Int → List (S39) → Int → Int → Int → ByteArray → ByteArray → List (S52) → Option (Bool)
 | 0, _, _, _, _, _, _, _, _, _, _, _ => none
 | k + 1, x0, x3, x4, x5, x26, x27, x28, x245000, x245001, x245002, x245003 => if (x4.length : Int) > 0 then (if 0 ≤ (wrap64 ((x4.length : Int) - 1)) then (if (wrap64 ((x4.length : Int) - 1)) < (x4.length : Int) then (if (rd x4 (wrap64 ((x4.length : Int) - 1))) = x245000 then (impl_DocOk.j3 k x0 x3 x4 x5 x26 x27 x28 x245000 x245001 x245002 x245003) else (if (wrap64 ((x4.length : Int) - 1)) ≤ (x4.length : Int) then (impl_DocOk.l1 k x0 x3 (x4.take ((wrap64 ((x4.length : Int) - 1)) : Int).toNat) x5 x26 x27 x28 x245000 x245001 x245002 x245003) else (none))) else (none)) else (none)) else (impl_DocOk.j3 k x0 x3 x4 x5 x26 x27 x28 x245000 x245001 x245002 x245003)
end
def impl_DocOk.f (k : Nat) (l0 : List (S39)) : Option (Bool) := (impl_in.f (l0.length : Int) 1 200).bind fun t237 => (if t237 = true then (if 0 < (l0.length : Int) then (if ((rd_T39 l0 0).f0) = (-1) then (impl_DocOk.j0 k l0 (((rd_T39 l0 0).f1).toList == ([] : List UInt8))) else (impl_DocOk.j0 k l0 true)) else (none)) else (impl_DocOk.j0 k l0 true))
set_option maxHeartbeats 8000000 in
set_option maxRecDepth 100000 in
theorem impl_DocOk.calls (k : Nat) (A0 : Option Addr) (c0 : Nat) (l0 : List (S39)) (r : Bool) (w : World) (hgl : GL w) (hr0 : Kd.C k39 w A0 l0.length l0) (hc0 : l0.length ≤ c0) (h : impl_DocOk.f k l0 = some r) :
  Calls Tryz.prog 13 #[.slice A0 l0.length c0] w fun e w' => e = .returned (.bool r) ∧ Below w.heap.size w w' := by
 have hu39 := Tryz.underlying39
 have HGL := Aside0.mk hgl
 clear hgl
 have HR0 := Aside0.mk hr0
 have HC0 := Aside0.mk hc0
 clear hr0 hc0
 have HB := Aside0.mk (Below.refl w.heap.size w)
 have H : ((impl_in.f (l0.length : Int) 1 200).bind fun t237 => (if t237 = true then (if 0 < (l0.length : Int) then (if ((rd_T39 l0 0).f0) = (-1) then (impl_DocOk.j0 k l0 (((rd_T39 l0 0).f1).toList == ([] : List UInt8))) else (impl_DocOk.j0 k l0 true)) else (none)) else (impl_DocOk.j0 k l0 true))) = some r := h
 clear h
 have HC2 := Aside0.mk H
 clear H
 go_enter Tryz.func13, Tryz.ntmps13
 go_upto_region 1 with (fail)
 repeat (go_quiet (fail); go_upto_region 1 with (fail))
 go_cut [24] (fun v24 wc => ∃ (kq : Nat) (x24_1 : Bool), v24 = .bool x24_1 ∧ Aside0 (impl_DocOk.j0 kq l0 x24_1 = some r) ∧ Aside0 (kq ≤ k) ∧ Aside0 (Below w.heap.size w wc))
 case first =>
  have H := HC2.out
  clear HC2
  replace H := Option.bind_eq_some_iff.mp H
  obtain ⟨t237, A30, H⟩ := H
  replace H : (if t237 = true then (if 0 < (l0.length : Int) then (if ((rd_T39 l0 0).f0) = (-1) then (impl_DocOk.j0 k l0 (((rd_T39 l0 0).f1).toList == ([] : List UInt8))) else (impl_DocOk.j0 k l0 true)) else (none)) else (impl_DocOk.j0 k l0 true)) = some r := H
  have A3 := Aside0.mk A30
  clear A30
  by_cases c4 : t237 = true
  rotate_left
  ·replace c4 := Bool.eq_false_iff.mpr c4
   subst c4
   have H1 : (impl_DocOk.j0 k l0 true) = some r := by rw [if_neg (show ¬ (false = true) by decide)] at H; exact H
   clear H
   have H := H1
   clear H1
   have H' := Aside0.mk H
   clear H
   go_wp2_with (first | (go_at_call 26; (with_reducible refine (impl_in.calls (l0.length : Int) 1 200 false _ A3.out).mono ?_); rintro e w' ⟨rfl, ⟨nd, rfl⟩⟩; (try first | exact aZ1 | exact aZ2)))
   repeat (go_quiet (first | (go_at_call 26; (with_reducible refine (impl_in.calls (l0.length : Int) 1 200 false _ A3.out).mono ?_); rintro e w' ⟨rfl, ⟨nd, rfl⟩⟩; (try first | exact aZ1 | exact aZ2))); try go_wp2_with (first | (go_at_call 26; (with_reducible refine (impl_in.calls (l0.length : Int) 1 200 false _ A3.out).mono ?_); rintro e w' ⟨rfl, ⟨nd, rfl⟩⟩; (try first | exact aZ1 | exact aZ2))))
   go_meet
   case rel => exact ⟨_, (true), aR, H', ⟨by first | omega | exact Nat.le_refl _⟩, ⟨aB⟩⟩
  subst c4
  have H1 : (if 0 < (l0.length : Int) then (if ((rd_T39 l0 0).f0) = (-1) then (impl_DocOk.j0 k l0 (((rd_T39 l0 0).f1).toList == ([] : List UInt8))) else (impl_DocOk.j0 k l0 true)) else (none)) = some r := by rw [if_pos rfl] at H; exact H
  clear H
  have H := H1
  clear H1
  by_cases c5 : 0 < (l0.length : Int)
  rotate_left
  ·rw [if_neg c5] at H
   exact absurd H (by simp)
  rw [if_pos c5] at H
  have c5b0 : decide (0 < (l0.length : Int)) = true := decide_eq_true c5
  have c5b1 : decide (0 < l0.length) = true := decide_eq_true (by omega)
  clear c5
  (first | rw [c5b0] | (simp only [i64_w, i32_w]; rw [c5b0]) | skip)
  by_cases c6 : ((rd_T39 l0 0).f0) = (-1)
  rotate_left
  ·rw [if_neg c6] at H
   have c6b0 : (((rd_T39 l0 0).f0) == (-1)) = false := beq_eq_false_iff_ne.mpr c6
   have c6b1 : (((rd_T39 l0 0).f0) != (-1)) = true := bne_iff_ne.mpr c6
   have H' := Aside0.mk H
   clear H
   go_wp2_with (first | (go_at_call 26; (with_reducible refine (impl_in.calls (l0.length : Int) 1 200 true _ A3.out).mono ?_); rintro e w' ⟨rfl, ⟨nd, rfl⟩⟩; (try first | exact aZ1 | exact aZ2); have p238 : 0 ≤ (0 : Int) := (by omega); have q238 : 0 < (l0.length : Int) := aD; obtain ⟨ad238, A238_3, c238_3, e238, hx238_0, hx238_1, hx238_2, hx238_3, hl238_3, hi238_3⟩ := at_T39 HR0.out 0 p238 q238; cases e238; have qi238 : (0 < l0.length) = True := eq_true (by omega); (try rw [show ((0 : Int)).toNat = 0 from rfl] at hx238_0); (try rw [show 0 * 4 = 0 from rfl] at hx238_0); (try rw [Addr.add_zero'] at hx238_0); (try rw [show ((0 : Int)).toNat = 0 from rfl] at hx238_1); (try rw [show 0 * 4 = 0 from rfl] at hx238_1); (try rw [Addr.add_zero'] at hx238_1); (try rw [show ((0 : Int)).toNat = 0 from rfl] at hx238_2); (try rw [show 0 * 4 = 0 from rfl] at hx238_2); (try rw [Addr.add_zero'] at hx238_2); (try rw [show ((0 : Int)).toNat = 0 from rfl] at hx238_3); (try rw [show 0 * 4 = 0 from rfl] at hx238_3); (try rw [Addr.add_zero'] at hx238_3); replace hx238_0 := (HB.out.cell (World.block_lt_of_cell? w _ hx238_0)).trans hx238_0; replace hx238_1 := (HB.out.cell (World.block_lt_of_cell? w _ hx238_1)).trans hx238_1; replace hx238_2 := (HB.out.cell (World.block_lt_of_cell? w _ hx238_2)).trans hx238_2; replace hx238_3 := (HB.out.cell (World.block_lt_of_cell? w _ hx238_3)).trans hx238_3; have HR238_3 := Aside0.mk hi238_3; have HC238_3 := Aside0.mk hl238_3; clear hi238_3 hl238_3; replace p238 := eq_true p238; replace q238 := eq_true q238))
   repeat (go_quiet (first | (go_at_call 26; (with_reducible refine (impl_in.calls (l0.length : Int) 1 200 true _ A3.out).mono ?_); rintro e w' ⟨rfl, ⟨nd, rfl⟩⟩; (try first | exact aZ1 | exact aZ2); have p238 : 0 ≤ (0 : Int) := (by omega); have q238 : 0 < (l0.length : Int) := aD; obtain ⟨ad238, A238_3, c238_3, e238, hx238_0, hx238_1, hx238_2, hx238_3, hl238_3, hi238_3⟩ := at_T39 HR0.out 0 p238 q238; cases e238; have qi238 : (0 < l0.length) = True := eq_true (by omega); (try rw [show ((0 : Int)).toNat = 0 from rfl] at hx238_0); (try rw [show 0 * 4 = 0 from rfl] at hx238_0); (try rw [Addr.add_zero'] at hx238_0); (try rw [show ((0 : Int)).toNat = 0 from rfl] at hx238_1); (try rw [show 0 * 4 = 0 from rfl] at hx238_1); (try rw [Addr.add_zero'] at hx238_1); (try rw [show ((0 : Int)).toNat = 0 from rfl] at hx238_2); (try rw [show 0 * 4 = 0 from rfl] at hx238_2); (try rw [Addr.add_zero'] at hx238_2); (try rw [show ((0 : Int)).toNat = 0 from rfl] at hx238_3); (try rw [show 0 * 4 = 0 from rfl] at hx238_3); (try rw [Addr.add_zero'] at hx238_3); replace hx238_0 := (HB.out.cell (World.block_lt_of_cell? w _ hx238_0)).trans hx238_0; replace hx238_1 := (HB.out.cell (World.block_lt_of_cell? w _ hx238_1)).trans hx238_1; replace hx238_2 := (HB.out.cell (World.block_lt_of_cell? w _ hx238_2)).trans hx238_2; replace hx238_3 := (HB.out.cell (World.block_lt_of_cell? w _ hx238_3)).trans hx238_3; have HR238_3 := Aside0.mk hi238_3; have HC238_3 := Aside0.mk hl238_3; clear hi238_3 hl238_3; replace p238 := eq_true p238; replace q238 := eq_true q238)); try go_wp2_with (first | (go_at_call 26; (with_reducible refine (impl_in.calls (l0.length : Int) 1 200 true _ A3.out).mono ?_); rintro e w' ⟨rfl, ⟨nd, rfl⟩⟩; (try first | exact aZ1 | exact aZ2); have p238 : 0 ≤ (0 : Int) := (by omega); have q238 : 0 < (l0.length : Int) := aD; obtain ⟨ad238, A238_3, c238_3, e238, hx238_0, hx238_1, hx238_2, hx238_3, hl238_3, hi238_3⟩ := at_T39 HR0.out 0 p238 q238; cases e238; have qi238 : (0 < l0.length) = True := eq_true (by omega); (try rw [show ((0 : Int)).toNat = 0 from rfl] at hx238_0); (try rw [show 0 * 4 = 0 from rfl] at hx238_0); (try rw [Addr.add_zero'] at hx238_0); (try rw [show ((0 : Int)).toNat = 0 from rfl] at hx238_1); (try rw [show 0 * 4 = 0 from rfl] at hx238_1); (try rw [Addr.add_zero'] at hx238_1); (try rw [show ((0 : Int)).toNat = 0 from rfl] at hx238_2); (try rw [show 0 * 4 = 0 from rfl] at hx238_2); (try rw [Addr.add_zero'] at hx238_2); (try rw [show ((0 : Int)).toNat = 0 from rfl] at hx238_3); (try rw [show 0 * 4 = 0 from rfl] at hx238_3); (try rw [Addr.add_zero'] at hx238_3); replace hx238_0 := (HB.out.cell (World.block_lt_of_cell? w _ hx238_0)).trans hx238_0; replace hx238_1 := (HB.out.cell (World.block_lt_of_cell? w _ hx238_1)).trans hx238_1; replace hx238_2 := (HB.out.cell (World.block_lt_of_cell? w _ hx238_2)).trans hx238_2; replace hx238_3 := (HB.out.cell (World.block_lt_of_cell? w _ hx238_3)).trans hx238_3; have HR238_3 := Aside0.mk hi238_3; have HC238_3 := Aside0.mk hl238_3; clear hi238_3 hl238_3; replace p238 := eq_true p238; replace q238 := eq_true q238)))
   go_meet
   case rel => exact ⟨_, (true), aR, H', ⟨by first | omega | exact Nat.le_refl _⟩, ⟨aB⟩⟩
  rw [if_pos c6] at H
  have c6b0 : (((rd_T39 l0 0).f0) == (-1)) = true := beq_iff_eq.mpr c6
  have c6b1 : (((rd_T39 l0 0).f0) != (-1)) = false := bne_eq_false_iff_eq.mpr c6
  clear c6
  have H' := Aside0.mk H
  clear H
  go_wp2_with (first | (go_at_call 26; (with_reducible refine (impl_in.calls (l0.length : Int) 1 200 true _ A3.out).mono ?_); rintro e w' ⟨rfl, ⟨nd, rfl⟩⟩; (try first | exact aZ1 | exact aZ2); have p238 : 0 ≤ (0 : Int) := (by omega); have q238 : 0 < (l0.length : Int) := aD; obtain ⟨ad238, A238_3, c238_3, e238, hx238_0, hx238_1, hx238_2, hx238_3, hl238_3, hi238_3⟩ := at_T39 HR0.out 0 p238 q238; cases e238; have qi238 : (0 < l0.length) = True := eq_true (by omega); (try rw [show ((0 : Int)).toNat = 0 from rfl] at hx238_0); (try rw [show 0 * 4 = 0 from rfl] at hx238_0); (try rw [Addr.add_zero'] at hx238_0); (try rw [show ((0 : Int)).toNat = 0 from rfl] at hx238_1); (try rw [show 0 * 4 = 0 from rfl] at hx238_1); (try rw [Addr.add_zero'] at hx238_1); (try rw [show ((0 : Int)).toNat = 0 from rfl] at hx238_2); (try rw [show 0 * 4 = 0 from rfl] at hx238_2); (try rw [Addr.add_zero'] at hx238_2); (try rw [show ((0 : Int)).toNat = 0 from rfl] at hx238_3); (try rw [show 0 * 4 = 0 from rfl] at hx238_3); (try rw [Addr.add_zero'] at hx238_3); replace hx238_0 := (HB.out.cell (World.block_lt_of_cell? w _ hx238_0)).trans hx238_0; replace hx238_1 := (HB.out.cell (World.block_lt_of_cell? w _ hx238_1)).trans hx238_1; replace hx238_2 := (HB.out.cell (World.block_lt_of_cell? w _ hx238_2)).trans hx238_2; replace hx238_3 := (HB.out.cell (World.block_lt_of_cell? w _ hx238_3)).trans hx238_3; have HR238_3 := Aside0.mk hi238_3; have HC238_3 := Aside0.mk hl238_3; clear hi238_3 hl238_3; replace p238 := eq_true p238; replace q238 := eq_true q238; have p239 : 0 ≤ (0 : Int) := (by omega); have q239 : 0 < (l0.length : Int) := aD; obtain ⟨ad239, A239_3, c239_3, e239, hx239_0, hx239_1, hx239_2, hx239_3, hl239_3, hi239_3⟩ := at_T39 HR0.out 0 p239 q239; obtain rfl : ad238 = ad239 := (by injection e239); have qi239 : (0 < l0.length) = True := eq_true (by omega); (try rw [show ((0 : Int)).toNat = 0 from rfl] at hx239_0); (try rw [show 0 * 4 = 0 from rfl] at hx239_0); (try rw [Addr.add_zero'] at hx239_0); (try rw [show ((0 : Int)).toNat = 0 from rfl] at hx239_1); (try rw [show 0 * 4 = 0 from rfl] at hx239_1); (try rw [Addr.add_zero'] at hx239_1); (try rw [show ((0 : Int)).toNat = 0 from rfl] at hx239_2); (try rw [show 0 * 4 = 0 from rfl] at hx239_2); (try rw [Addr.add_zero'] at hx239_2); (try rw [show ((0 : Int)).toNat = 0 from rfl] at hx239_3); (try rw [show 0 * 4 = 0 from rfl] at hx239_3); (try rw [Addr.add_zero'] at hx239_3); replace hx239_0 := (HB.out.cell (World.block_lt_of_cell? w _ hx239_0)).trans hx239_0; replace hx239_1 := (HB.out.cell (World.block_lt_of_cell? w _ hx239_1)).trans hx239_1; replace hx239_2 := (HB.out.cell (World.block_lt_of_cell? w _ hx239_2)).trans hx239_2; replace hx239_3 := (HB.out.cell (World.block_lt_of_cell? w _ hx239_3)).trans hx239_3; have HR239_3 := Aside0.mk hi239_3; have HC239_3 := Aside0.mk hl239_3; clear hi239_3 hl239_3; replace p239 := eq_true p239; replace q239 := eq_true q239; have ea_ := Option.some.inj (hx238_3.symm.trans hx239_3); injection ea_ with ea_ en_ ec_; subst ea_; subst ec_; clear en_))
  repeat (go_quiet (first | (go_at_call 26; (with_reducible refine (impl_in.calls (l0.length : Int) 1 200 true _ A3.out).mono ?_); rintro e w' ⟨rfl, ⟨nd, rfl⟩⟩; (try first | exact aZ1 | exact aZ2); have p238 : 0 ≤ (0 : Int) := (by omega); have q238 : 0 < (l0.length : Int) := aD; obtain ⟨ad238, A238_3, c238_3, e238, hx238_0, hx238_1, hx238_2, hx238_3, hl238_3, hi238_3⟩ := at_T39 HR0.out 0 p238 q238; cases e238; have qi238 : (0 < l0.length) = True := eq_true (by omega); (try rw [show ((0 : Int)).toNat = 0 from rfl] at hx238_0); (try rw [show 0 * 4 = 0 from rfl] at hx238_0); (try rw [Addr.add_zero'] at hx238_0); (try rw [show ((0 : Int)).toNat = 0 from rfl] at hx238_1); (try rw [show 0 * 4 = 0 from rfl] at hx238_1); (try rw [Addr.add_zero'] at hx238_1); (try rw [show ((0 : Int)).toNat = 0 from rfl] at hx238_2); (try rw [show 0 * 4 = 0 from rfl] at hx238_2); (try rw [Addr.add_zero'] at hx238_2); (try rw [show ((0 : Int)).toNat = 0 from rfl] at hx238_3); (try rw [show 0 * 4 = 0 from rfl] at hx238_3); (try rw [Addr.add_zero'] at hx238_3); replace hx238_0 := (HB.out.cell (World.block_lt_of_cell? w _ hx238_0)).trans hx238_0; replace hx238_1 := (HB.out.cell (World.block_lt_of_cell? w _ hx238_1)).trans hx238_1; replace hx238_2 := (HB.out.cell (World.block_lt_of_cell? w _ hx238_2)).trans hx238_2; replace hx238_3 := (HB.out.cell (World.block_lt_of_cell? w _ hx238_3)).trans hx238_3; have HR238_3 := Aside0.mk hi238_3; have HC238_3 := Aside0.mk hl238_3; clear hi238_3 hl238_3; replace p238 := eq_true p238; replace q238 := eq_true q238; have p239 : 0 ≤ (0 : Int) := (by omega); have q239 : 0 < (l0.length : Int) := aD; obtain ⟨ad239, A239_3, c239_3, e239, hx239_0, hx239_1, hx239_2, hx239_3, hl239_3, hi239_3⟩ := at_T39 HR0.out 0 p239 q239; obtain rfl : ad238 = ad239 := (by injection e239); have qi239 : (0 < l0.length) = True := eq_true (by omega); (try rw [show ((0 : Int)).toNat = 0 from rfl] at hx239_0); (try rw [show 0 * 4 = 0 from rfl] at hx239_0); (try rw [Addr.add_zero'] at hx239_0); (try rw [show ((0 : Int)).toNat = 0 from rfl] at hx239_1); (try rw [show 0 * 4 = 0 from rfl] at hx239_1); (try rw [Addr.add_zero'] at hx239_1); (try rw [show ((0 : Int)).toNat = 0 from rfl] at hx239_2); (try rw [show 0 * 4 = 0 from rfl] at hx239_2); (try rw [Addr.add_zero'] at hx239_2); (try rw [show ((0 : Int)).toNat = 0 from rfl] at hx239_3); (try rw [show 0 * 4 = 0 from rfl] at hx239_3); (try rw [Addr.add_zero'] at hx239_3); replace hx239_0 := (HB.out.cell (World.block_lt_of_cell? w _ hx239_0)).trans hx239_0; replace hx239_1 := (HB.out.cell (World.block_lt_of_cell? w _ hx239_1)).trans hx239_1; replace hx239_2 := (HB.out.cell (World.block_lt_of_cell? w _ hx239_2)).trans hx239_2; replace hx239_3 := (HB.out.cell (World.block_lt_of_cell? w _ hx239_3)).trans hx239_3; have HR239_3 := Aside0.mk hi239_3; have HC239_3 := Aside0.mk hl239_3; clear hi239_3 hl239_3; replace p239 := eq_true p239; replace q239 := eq_true q239; have ea_ := Option.some.inj (hx238_3.symm.trans hx239_3); injection ea_ with ea_ en_ ec_; subst ea_; subst ec_; clear en_)); try go_wp2_with (first | (go_at_call 26; (with_reducible refine (impl_in.calls (l0.length : Int) 1 200 true _ A3.out).mono ?_); rintro e w' ⟨rfl, ⟨nd, rfl⟩⟩; (try first | exact aZ1 | exact aZ2); have p238 : 0 ≤ (0 : Int) := (by omega); have q238 : 0 < (l0.length : Int) := aD; obtain ⟨ad238, A238_3, c238_3, e238, hx238_0, hx238_1, hx238_2, hx238_3, hl238_3, hi238_3⟩ := at_T39 HR0.out 0 p238 q238; cases e238; have qi238 : (0 < l0.length) = True := eq_true (by omega); (try rw [show ((0 : Int)).toNat = 0 from rfl] at hx238_0); (try rw [show 0 * 4 = 0 from rfl] at hx238_0); (try rw [Addr.add_zero'] at hx238_0); (try rw [show ((0 : Int)).toNat = 0 from rfl] at hx238_1); (try rw [show 0 * 4 = 0 from rfl] at hx238_1); (try rw [Addr.add_zero'] at hx238_1); (try rw [show ((0 : Int)).toNat = 0 from rfl] at hx238_2); (try rw [show 0 * 4 = 0 from rfl] at hx238_2); (try rw [Addr.add_zero'] at hx238_2); (try rw [show ((0 : Int)).toNat = 0 from rfl] at hx238_3); (try rw [show 0 * 4 = 0 from rfl] at hx238_3); (try rw [Addr.add_zero'] at hx238_3); replace hx238_0 := (HB.out.cell (World.block_lt_of_cell? w _ hx238_0)).trans hx238_0; replace hx238_1 := (HB.out.cell (World.block_lt_of_cell? w _ hx238_1)).trans hx238_1; replace hx238_2 := (HB.out.cell (World.block_lt_of_cell? w _ hx238_2)).trans hx238_2; replace hx238_3 := (HB.out.cell (World.block_lt_of_cell? w _ hx238_3)).trans hx238_3; have HR238_3 := Aside0.mk hi238_3; have HC238_3 := Aside0.mk hl238_3; clear hi238_3 hl238_3; replace p238 := eq_true p238; replace q238 := eq_true q238; have p239 : 0 ≤ (0 : Int) := (by omega); have q239 : 0 < (l0.length : Int) := aD; obtain ⟨ad239, A239_3, c239_3, e239, hx239_0, hx239_1, hx239_2, hx239_3, hl239_3, hi239_3⟩ := at_T39 HR0.out 0 p239 q239; obtain rfl : ad238 = ad239 := (by injection e239); have qi239 : (0 < l0.length) = True := eq_true (by omega); (try rw [show ((0 : Int)).toNat = 0 from rfl] at hx239_0); (try rw [show 0 * 4 = 0 from rfl] at hx239_0); (try rw [Addr.add_zero'] at hx239_0); (try rw [show ((0 : Int)).toNat = 0 from rfl] at hx239_1); (try rw [show 0 * 4 = 0 from rfl] at hx239_1); (try rw [Addr.add_zero'] at hx239_1); (try rw [show ((0 : Int)).toNat = 0 from rfl] at hx239_2); (try rw [show 0 * 4 = 0 from rfl] at hx239_2); (try rw [Addr.add_zero'] at hx239_2); (try rw [show ((0 : Int)).toNat = 0 from rfl] at hx239_3); (try rw [show 0 * 4 = 0 from rfl] at hx239_3); (try rw [Addr.add_zero'] at hx239_3); replace hx239_0 := (HB.out.cell (World.block_lt_of_cell? w _ hx239_0)).trans hx239_0; replace hx239_1 := (HB.out.cell (World.block_lt_of_cell? w _ hx239_1)).trans hx239_1; replace hx239_2 := (HB.out.cell (World.block_lt_of_cell? w _ hx239_2)).trans hx239_2; replace hx239_3 := (HB.out.cell (World.block_lt_of_cell? w _ hx239_3)).trans hx239_3; have HR239_3 := Aside0.mk hi239_3; have HC239_3 := Aside0.mk hl239_3; clear hi239_3 hl239_3; replace p239 := eq_true p239; replace q239 := eq_true q239; have ea_ := Option.some.inj (hx238_3.symm.trans hx239_3); injection ea_ with ea_ en_ ec_; subst ea_; subst ec_; clear en_)))
  go_meet
  case rel => exact ⟨_, ((((rd_T39 l0 0).f1).toList == ([] : List UInt8))), (by first | rfl | (simp only [show ∀ l_ : List UInt8, (l_ != []) = !l_.isEmpty from fun l_ => by cases l_ <;> rfl, show ∀ l_ : List UInt8, (l_ == []) = l_.isEmpty from fun l_ => by cases l_ <;> rfl] <;> rfl) | (simp; done) | (simp [*]; done)), H', ⟨by first | omega | exact Nat.le_refl _⟩, ⟨aB⟩⟩
 case rest =>
  clear HC2
  try clear c1
  try clear c2
  try clear p2
  try clear q2
  try clear hx2
  try clear qi2
  try clear c4
  try clear c5
  try clear c5b0
  try clear c5b1
  try clear c6
  try clear c6b0
  try clear c6b1
  try clear hx238_0
  try clear hx238_1
  try clear hx238_2
  try clear hx238_3
  try clear hx239_0
  try clear hx239_1
  try clear hx239_2
  try clear hx239_3
  try clear p238
  try clear p239
  try clear q238
  try clear q239
  obtain ⟨kq, x24_1, rfl, HA, HJ1, HB⟩ := hcut
  cases kq with
  | zero => exact absurd HA.out (by simp [impl_DocOk.j0])
  | succ kj1 =>
   have H := HA.out
   clear HA
   simp only [impl_DocOk.j0] at H
   by_cases c7 : x24_1 = true
   ·subst c7
    have H1 : (some false) = some r := by rw [if_pos rfl] at H; exact H
    clear H
    have H := H1
    clear H1
    obtain rfl := Option.some.inj H
    go_wp2
    repeat (go_quiet (fail); try go_wp2)
    go_ret
    exact ⟨by first | rfl | (simp only [aX1, aX2]; rfl) | (simp [*] <;> rfl), aB⟩
   replace c7 := Bool.eq_false_iff.mpr c7
   subst c7
   have H1 : (impl_DocOk.l0 kj1 l0 0 (([] : List Int)) l0 (l0.length : Int) 0) = some r := by rw [if_neg (show ¬ (false = true) by decide)] at H; exact H
   clear H
   have H := H1
   clear H1
   obtain ⟨y240, hy240⟩ : ∃ y_ : List Int, y_ = (([] : List Int)) := ⟨_, rfl⟩
   replace H : (impl_DocOk.l0 kj1 l0 0 y240 l0 (l0.length : Int) 0) = some r := by first | (rw [hy240]; with_reducible exact H) | (have H2_ := (Option.bind_some _ _).symm.trans H; rw [hy240]; with_reducible exact H2_) | (have H2_ := (Option.bind_some _ _).symm.trans H; with_reducible exact H2_) | with_reducible exact H | (rw [hy240]; exact H) | exact H
   have Ny240 := Aside0.mk hy240
   clear hy240
   have H' := Aside0.mk H
   clear H
   go_wp2_with (first | ((with_reducible refine gate_dst (N := 25) rfl ?_); (try (refine gate_guard (by rfl) ?_; dsimp only)); refine Kd.R_lit (Kd.int .i64) _ 2 ?hg (N := 25) ?hd (xs := ([] : List Int)) (inner := []) (ok := fun _ => True) (okp := fun _ => True) ?hr ?hp (fun _ hk => hk) trivial (Below.refl _ _) (Nat.le_refl _) (by simp) ?_; (case hd => rfl); (case hg => rfl); (case hr => first | (go_simp; done) | (go_simp; rfl)); (case hp => exact (Reps.none _ _)); intro v241 w8 ho9 hb hg_ hnew_; clear hg_ hnew_; (first | rw [← Ny240.out] at ho9 | (simp only [Int.reduceToNat] at ho9; rw [← Ny240.out] at ho9)); have n0_ := Aside0.mk (Kd.R_lower ho9 (below_size aB)); have n1_ := Aside0.mk (below_step aB hb); clear HB; have HO242 := n0_; have HB := n1_; clear n0_ n1_; clear hb ho9))
   repeat (go_quiet (first | ((with_reducible refine gate_dst (N := 25) rfl ?_); (try (refine gate_guard (by rfl) ?_; dsimp only)); refine Kd.R_lit (Kd.int .i64) _ 2 ?hg (N := 25) ?hd (xs := ([] : List Int)) (inner := []) (ok := fun _ => True) (okp := fun _ => True) ?hr ?hp (fun _ hk => hk) trivial (Below.refl _ _) (Nat.le_refl _) (by simp) ?_; (case hd => rfl); (case hg => rfl); (case hr => first | (go_simp; done) | (go_simp; rfl)); (case hp => exact (Reps.none _ _)); intro v241 w8 ho9 hb hg_ hnew_; clear hg_ hnew_; (first | rw [← Ny240.out] at ho9 | (simp only [Int.reduceToNat] at ho9; rw [← Ny240.out] at ho9)); have n0_ := Aside0.mk (Kd.R_lower ho9 (below_size aB)); have n1_ := Aside0.mk (below_step aB hb); clear HB; have HO242 := n0_; have HB := n1_; clear n0_ n1_; clear hb ho9)); try go_wp2_with (first | ((with_reducible refine gate_dst (N := 25) rfl ?_); (try (refine gate_guard (by rfl) ?_; dsimp only)); refine Kd.R_lit (Kd.int .i64) _ 2 ?hg (N := 25) ?hd (xs := ([] : List Int)) (inner := []) (ok := fun _ => True) (okp := fun _ => True) ?hr ?hp (fun _ hk => hk) trivial (Below.refl _ _) (Nat.le_refl _) (by simp) ?_; (case hd => rfl); (case hg => rfl); (case hr => first | (go_simp; done) | (go_simp; rfl)); (case hp => exact (Reps.none _ _)); intro v241 w8 ho9 hb hg_ hnew_; clear hg_ hnew_; (first | rw [← Ny240.out] at ho9 | (simp only [Int.reduceToNat] at ho9; rw [← Ny240.out] at ho9)); have n0_ := Aside0.mk (Kd.R_lower ho9 (below_size aB)); have n1_ := Aside0.mk (below_step aB hb); clear HB; have HO242 := n0_; have HB := n1_; clear n0_ n1_; clear hb ho9)))
   go_loopg [3, 4, 28] kj1 (fun kq v3 v4 v28 w' => ∃ (x3_2 : Int) (x4_2 : List Int) (x28_2 : Int), v3 = .int .i64 x3_2 ∧ v28 = .int .i64 x28_2 ∧ Aside0 (impl_DocOk.l0 kq l0 x3_2 x4_2 l0 (l0.length : Int) x28_2 = some r) ∧ Aside0 (kq ≤ kj1) ∧ Aside0 (Kd.R (Kd.int .i64) 2 w' w.heap.size (fun _ => True) v4 x4_2) ∧ Aside0 (Below w.heap.size w w'))
   case atStart => exact ⟨(0), (y240), (0), aR, aR, H', ⟨Nat.le_refl _⟩, ⟨aP HO242.out⟩, ⟨aB⟩⟩
   case round =>
    clear H'
    try clear c1
    try clear c2
    try clear p2
    try clear q2
    try clear hx2
    try clear qi2
    try clear c4
    try clear c5
    try clear c5b0
    try clear c5b1
    try clear c6
    try clear c6b0
    try clear c6b1
    try clear c7
    try clear hx238_0
    try clear hx238_1
    try clear hx238_2
    try clear hx238_3
    try clear hx239_0
    try clear hx239_1
    try clear hx239_2
    try clear hx239_3
    try clear p2
    try clear p238
    try clear p239
    try clear q2
    try clear q238
    try clear q239
    obtain ⟨x3_2, x4_2, x28_2, rfl, rfl, HA, HK2, HO_4, HB⟩ := hrel
    cases gk with
    | zero => exact absurd HA.out (by simp [impl_DocOk.l0])
    | succ k2 =>
     have H := HA.out
     clear HA
     simp only [impl_DocOk.l0] at H
     by_cases c10 : x28_2 < (l0.length : Int)
     rotate_left
     ·rw [if_neg c10] at H
      have c10b0 : decide (x28_2 < (l0.length : Int)) = false := decide_eq_false c10
      clear c10
      obtain rfl := Option.some.inj H
      go_wp2
      repeat (go_quiet (fail); try go_wp2)
      go_ret
      exact ⟨by first | rfl | (simp only [aX1, aX2]; rfl) | (simp [*] <;> rfl), aB⟩
     rw [if_pos c10] at H
     have c10b0 : decide (x28_2 < (l0.length : Int)) = true := decide_eq_true c10
     clear c10
     by_cases c11 : 0 ≤ x28_2
     rotate_left
     ·rw [if_neg c11] at H
      exact absurd H (by simp)
     rw [if_pos c11] at H
     have c11b0 : decide (0 ≤ x28_2) = true := decide_eq_true c11
     clear c11
     by_cases c12 : x28_2 < (l0.length : Int)
     rotate_left
     ·rw [if_neg c12] at H
      exact absurd H (by simp)
     rw [if_pos c12] at H
     have c12b0 : decide (x28_2 < (l0.length : Int)) = true := decide_eq_true c12
     clear c12
     replace H := Option.bind_eq_some_iff.mp H
     obtain ⟨t245, A130, H⟩ := H
     replace H : (if t245 = true then ((impl_Item_bytes.f k2 ((rd_T39 l0 x28_2).f0) ((rd_T39 l0 x28_2).f1) ((rd_T39 l0 x28_2).f2) ((rd_T39 l0 x28_2).f3)).bind fun t246 => (impl_DocOk.l1 k2 l0 (wrap64 (x3_2 + t246)) x4_2 x28_2 l0 (l0.length : Int) x28_2 ((rd_T39 l0 x28_2).f0) ((rd_T39 l0 x28_2).f1) ((rd_T39 l0 x28_2).f2) ((rd_T39 l0 x28_2).f3))) else (some false)) = some r := H
     have A13 := Aside0.mk A130
     clear A130
     by_cases c14 : t245 = true
     rotate_left
     ·replace c14 := Bool.eq_false_iff.mpr c14
      subst c14
      have H1 : (some false) = some r := by rw [if_neg (show ¬ (false = true) by decide)] at H; exact H
      clear H
      have H := H1
      clear H1
      obtain rfl := Option.some.inj H
      have p243 : 0 ≤ (x28_2 : Int) := aD
      have q243 : x28_2 < (l0.length : Int) := aD
      obtain ⟨ad243, A243_3, c243_3, e243, hx243_0, hx243_1, hx243_2, hx243_3, hl243_3, hi243_3⟩ := at_T39 HR0.out x28_2 p243 q243
      cases e243
      replace hx243_0 := (HB.out.cell (World.block_lt_of_cell? w _ hx243_0)).trans hx243_0
      replace hx243_1 := (HB.out.cell (World.block_lt_of_cell? w _ hx243_1)).trans hx243_1
      replace hx243_2 := (HB.out.cell (World.block_lt_of_cell? w _ hx243_2)).trans hx243_2
      replace hx243_3 := (HB.out.cell (World.block_lt_of_cell? w _ hx243_3)).trans hx243_3
      have HR243_3 := Aside0.mk hi243_3
      have HC243_3 := Aside0.mk hl243_3
      clear hi243_3 hl243_3
      replace p243 := eq_true p243
      replace q243 := eq_true q243
      go_wp2_with (first | ((with_reducible refine gate_dst (N := 6) rfl ?_); (try (refine gate_guard (by rfl) ?_; dsimp only)); refine box_event ?hg (N := 6) ?hd (cs := #[.int .i64 0, .string (⟨#[]⟩ : ByteArray), .string (⟨#[]⟩ : ByteArray), .slice none 0 0]) (t := 39) ?hr ?_; (case hd => rfl); (case hg => rfl); (case hr => first | (go_simp; done) | (go_simp; rfl)); intro gb244 hg w57 hbox hb; have n0_ := Aside0.mk (Kd.R_below (aP HO_4.out) hb); have n1_ := Aside0.mk (below_step aB hb); have n2_ := Aside0.mk (hbox); have n3_ := Aside0.mk ((by rw [hg]; exact (below_size aB) : w.heap.size ≤ gb244)); have n4_ := Aside0.mk ((by rw [hg]; exact (below_size aB) : w.heap.size ≤ gb244)); clear HO_4; clear HB; have HO_4 := n0_; have HB := n1_; have BK244 := n2_; have GW244 := n3_; have GE244 := n4_; clear n0_ n1_ n2_ n3_ n4_; clear hb hbox hg; have hcz58_0 : w57.cell? ⟨gb244, 0, none⟩ = some (.int .i64 0) := (blk_cell BK244.out 0).trans rfl; have hcz58_1 : w57.cell? ⟨gb244, 1, none⟩ = some (.string (⟨#[]⟩ : ByteArray)) := (blk_cell BK244.out 1).trans rfl; have hcz58_2 : w57.cell? ⟨gb244, 2, none⟩ = some (.string (⟨#[]⟩ : ByteArray)) := (blk_cell BK244.out 2).trans rfl; have hcz58_3 : w57.cell? ⟨gb244, 3, none⟩ = some (.slice none 0 0) := (blk_cell BK244.out 3).trans rfl; have hfz58_0 := blk_frozen BK244.out 0; have hfz58_1 := blk_frozen BK244.out 1; have hfz58_2 := blk_frozen BK244.out 2; have hfz58_3 := blk_frozen BK244.out 3) | ((with_reducible refine gate_store (t := 39) (p := 6) rfl ?_); (try (rw [drewN_self w57]; generalize hq_ : World.drewN w57 _ = w57; have n0_ := Aside0.mk (Kd.R_at hq_ HO_4.out); have n1_ := Aside0.mk (blk_at hq_ BK244.out); have n2_ := Aside0.mk (below_at hq_ HB.out); clear hq_ HO_4 BK244 HB; have HO_4 := n0_; have BK244 := n1_; have HB := n2_; clear n0_ n1_ n2_)); refine store_event (t := 39) (p := 6) (v := ?vo_w59) (w1 := ((((w57.setCell ⟨gb244, 0, none⟩ (.int .i64 ((rd_T39 l0 x28_2).f0))).setCell ⟨gb244, 1, none⟩ (.string ((rd_T39 l0 x28_2).f1))).setCell ⟨gb244, 2, none⟩ (.string ((rd_T39 l0 x28_2).f2))).setCell ⟨gb244, 3, none⟩ (.slice A243_3 ((rd_T39 l0 x28_2).f3).length c243_3))) ?hg ?ho ?hn ?hr ?_; (case ho => rfl); (case hg => rfl); (case hn => rfl); (case hr => first | (go_simp; done) | (go_simp; rfl)); intro w59 hw; have n0_ : Aside0 (Kd.R (Kd.int .i64) 2 w59 w.heap.size (fun _ => True) u4 x4_2) := ⟨(by rw [hw]; exact (by (with_reducible repeat (first | apply Kd.R_alloc | apply Kd.R_drewN | apply Kd.R_drew)); exact Kd.R_mono (Kd.R_far (p := ⟨gb244, 3, none⟩) (Kd.R_far (p := ⟨gb244, 2, none⟩) (Kd.R_far (p := ⟨gb244, 1, none⟩) (Kd.R_far (p := ⟨gb244, 0, none⟩) (Kd.R_types HO_4.out BK244.out (by decide)) (fun _ hk => hk.2) (.int .i64 ((rd_T39 l0 x28_2).f0))) (fun _ hk => hk.2) (.string ((rd_T39 l0 x28_2).f1))) (fun _ hk => hk.2) (.string ((rd_T39 l0 x28_2).f2))) (fun _ hk => hk.2) (.slice A243_3 ((rd_T39 l0 x28_2).f3).length c243_3)) (fun _ hk => trivial)))⟩; have n1_ : Aside0 (w59.heap[gb244]? = some (.cells #[.int .i64 ((rd_T39 l0 x28_2).f0), .string ((rd_T39 l0 x28_2).f1), .string ((rd_T39 l0 x28_2).f2), .slice A243_3 ((rd_T39 l0 x28_2).f3).length c243_3] 39 (0, 0))) := ⟨(by rw [hw]; exact (by (with_reducible repeat (first | apply d1 | apply d2 | apply d3)); refine blk_put (cs := #[.int .i64 ((rd_T39 l0 x28_2).f0), .string ((rd_T39 l0 x28_2).f1), .string ((rd_T39 l0 x28_2).f2), .slice none 0 0]) ?_ 3 _ rfl; (with_reducible repeat (first | apply d1 | apply d2 | apply d3)); refine blk_put (cs := #[.int .i64 ((rd_T39 l0 x28_2).f0), .string ((rd_T39 l0 x28_2).f1), .string (⟨#[]⟩ : ByteArray), .slice none 0 0]) ?_ 2 _ rfl; (with_reducible repeat (first | apply d1 | apply d2 | apply d3)); refine blk_put (cs := #[.int .i64 ((rd_T39 l0 x28_2).f0), .string (⟨#[]⟩ : ByteArray), .string (⟨#[]⟩ : ByteArray), .slice none 0 0]) ?_ 1 _ rfl; (with_reducible repeat (first | apply d1 | apply d2 | apply d3)); refine blk_put (cs := #[.int .i64 0, .string (⟨#[]⟩ : ByteArray), .string (⟨#[]⟩ : ByteArray), .slice none 0 0]) ?_ 0 _ rfl; (with_reducible repeat (first | apply d1 | apply d2 | apply d3)); exact BK244.out))⟩; have n2_ : Aside0 (Below w.heap.size w w59) := ⟨(by rw [hw]; exact aE)⟩; clear hw; clear HO_4; clear BK244; clear HB; have HO_4 := n0_; have BK244 := n1_; have HB := n2_; clear n0_ n1_ n2_; have hcz60_0 : w59.cell? ⟨gb244, 0, none⟩ = some (.int .i64 ((rd_T39 l0 x28_2).f0)) := (blk_cell BK244.out 0).trans rfl; have hcz60_1 : w59.cell? ⟨gb244, 1, none⟩ = some (.string ((rd_T39 l0 x28_2).f1)) := (blk_cell BK244.out 1).trans rfl; have hcz60_2 : w59.cell? ⟨gb244, 2, none⟩ = some (.string ((rd_T39 l0 x28_2).f2)) := (blk_cell BK244.out 2).trans rfl; have hcz60_3 : w59.cell? ⟨gb244, 3, none⟩ = some (.slice A243_3 ((rd_T39 l0 x28_2).f3).length c243_3) := (blk_cell BK244.out 3).trans rfl; have hfz60_0 := blk_frozen BK244.out 0; have hfz60_1 := blk_frozen BK244.out 1; have hfz60_2 := blk_frozen BK244.out 2; have hfz60_3 := blk_frozen BK244.out 3) | (go_at_call 27; (with_reducible refine (impl_Item_isGood.calls k2 ((rd_T39 l0 x28_2).f0) ((rd_T39 l0 x28_2).f1) ((rd_T39 l0 x28_2).f2) _ _ ((rd_T39 l0 x28_2).f3) false _ ?side1 ?side2 ?side3 A13.out).mono ?_); (case side1 => exact GL.below HGL.out aE); (case side2 => repeat (first | exact (Kd.C_below HR243_3.out HB.out) | (with_reducible refine Kd.C_alloc ?_ _) | (with_reducible refine Kd.C_drewN ?_ _) | (with_reducible refine Kd.C_drew ?_))); (case side3 => exact HC243_3.out); rintro e w61 ⟨rfl, hb⟩; have n0_ := Aside0.mk (Kd.R_below (aP HO_4.out) hb); have n1_ := Aside0.mk (blk_below (g := gb244) (o := .cells #[.int .i64 ((rd_T39 l0 x28_2).f0), .string ((rd_T39 l0 x28_2).f1), .string ((rd_T39 l0 x28_2).f2), .slice A243_3 ((rd_T39 l0 x28_2).f3).length c243_3] 39 (0, 0)) (aP BK244.out) hb); have n2_ := Aside0.mk (below_step aE hb); clear HO_4; clear BK244; clear HB; have HO_4 := n0_; have BK244 := n1_; have HB := n2_; clear n0_ n1_ n2_; (try clear hb); (try clear hb2); (try clear hk); (try clear hi)))
      repeat (go_quiet (first | ((with_reducible refine gate_dst (N := 6) rfl ?_); (try (refine gate_guard (by rfl) ?_; dsimp only)); refine box_event ?hg (N := 6) ?hd (cs := #[.int .i64 0, .string (⟨#[]⟩ : ByteArray), .string (⟨#[]⟩ : ByteArray), .slice none 0 0]) (t := 39) ?hr ?_; (case hd => rfl); (case hg => rfl); (case hr => first | (go_simp; done) | (go_simp; rfl)); intro gb244 hg w57 hbox hb; have n0_ := Aside0.mk (Kd.R_below (aP HO_4.out) hb); have n1_ := Aside0.mk (below_step aB hb); have n2_ := Aside0.mk (hbox); have n3_ := Aside0.mk ((by rw [hg]; exact (below_size aB) : w.heap.size ≤ gb244)); have n4_ := Aside0.mk ((by rw [hg]; exact (below_size aB) : w.heap.size ≤ gb244)); clear HO_4; clear HB; have HO_4 := n0_; have HB := n1_; have BK244 := n2_; have GW244 := n3_; have GE244 := n4_; clear n0_ n1_ n2_ n3_ n4_; clear hb hbox hg; have hcz58_0 : w57.cell? ⟨gb244, 0, none⟩ = some (.int .i64 0) := (blk_cell BK244.out 0).trans rfl; have hcz58_1 : w57.cell? ⟨gb244, 1, none⟩ = some (.string (⟨#[]⟩ : ByteArray)) := (blk_cell BK244.out 1).trans rfl; have hcz58_2 : w57.cell? ⟨gb244, 2, none⟩ = some (.string (⟨#[]⟩ : ByteArray)) := (blk_cell BK244.out 2).trans rfl; have hcz58_3 : w57.cell? ⟨gb244, 3, none⟩ = some (.slice none 0 0) := (blk_cell BK244.out 3).trans rfl; have hfz58_0 := blk_frozen BK244.out 0; have hfz58_1 := blk_frozen BK244.out 1; have hfz58_2 := blk_frozen BK244.out 2; have hfz58_3 := blk_frozen BK244.out 3) | ((with_reducible refine gate_store (t := 39) (p := 6) rfl ?_); (try (rw [drewN_self w57]; generalize hq_ : World.drewN w57 _ = w57; have n0_ := Aside0.mk (Kd.R_at hq_ HO_4.out); have n1_ := Aside0.mk (blk_at hq_ BK244.out); have n2_ := Aside0.mk (below_at hq_ HB.out); clear hq_ HO_4 BK244 HB; have HO_4 := n0_; have BK244 := n1_; have HB := n2_; clear n0_ n1_ n2_)); refine store_event (t := 39) (p := 6) (v := ?vo_w59) (w1 := ((((w57.setCell ⟨gb244, 0, none⟩ (.int .i64 ((rd_T39 l0 x28_2).f0))).setCell ⟨gb244, 1, none⟩ (.string ((rd_T39 l0 x28_2).f1))).setCell ⟨gb244, 2, none⟩ (.string ((rd_T39 l0 x28_2).f2))).setCell ⟨gb244, 3, none⟩ (.slice A243_3 ((rd_T39 l0 x28_2).f3).length c243_3))) ?hg ?ho ?hn ?hr ?_; (case ho => rfl); (case hg => rfl); (case hn => rfl); (case hr => first | (go_simp; done) | (go_simp; rfl)); intro w59 hw; have n0_ : Aside0 (Kd.R (Kd.int .i64) 2 w59 w.heap.size (fun _ => True) u4 x4_2) := ⟨(by rw [hw]; exact (by (with_reducible repeat (first | apply Kd.R_alloc | apply Kd.R_drewN | apply Kd.R_drew)); exact Kd.R_mono (Kd.R_far (p := ⟨gb244, 3, none⟩) (Kd.R_far (p := ⟨gb244, 2, none⟩) (Kd.R_far (p := ⟨gb244, 1, none⟩) (Kd.R_far (p := ⟨gb244, 0, none⟩) (Kd.R_types HO_4.out BK244.out (by decide)) (fun _ hk => hk.2) (.int .i64 ((rd_T39 l0 x28_2).f0))) (fun _ hk => hk.2) (.string ((rd_T39 l0 x28_2).f1))) (fun _ hk => hk.2) (.string ((rd_T39 l0 x28_2).f2))) (fun _ hk => hk.2) (.slice A243_3 ((rd_T39 l0 x28_2).f3).length c243_3)) (fun _ hk => trivial)))⟩; have n1_ : Aside0 (w59.heap[gb244]? = some (.cells #[.int .i64 ((rd_T39 l0 x28_2).f0), .string ((rd_T39 l0 x28_2).f1), .string ((rd_T39 l0 x28_2).f2), .slice A243_3 ((rd_T39 l0 x28_2).f3).length c243_3] 39 (0, 0))) := ⟨(by rw [hw]; exact (by (with_reducible repeat (first | apply d1 | apply d2 | apply d3)); refine blk_put (cs := #[.int .i64 ((rd_T39 l0 x28_2).f0), .string ((rd_T39 l0 x28_2).f1), .string ((rd_T39 l0 x28_2).f2), .slice none 0 0]) ?_ 3 _ rfl; (with_reducible repeat (first | apply d1 | apply d2 | apply d3)); refine blk_put (cs := #[.int .i64 ((rd_T39 l0 x28_2).f0), .string ((rd_T39 l0 x28_2).f1), .string (⟨#[]⟩ : ByteArray), .slice none 0 0]) ?_ 2 _ rfl; (with_reducible repeat (first | apply d1 | apply d2 | apply d3)); refine blk_put (cs := #[.int .i64 ((rd_T39 l0 x28_2).f0), .string (⟨#[]⟩ : ByteArray), .string (⟨#[]⟩ : ByteArray), .slice none 0 0]) ?_ 1 _ rfl; (with_reducible repeat (first | apply d1 | apply d2 | apply d3)); refine blk_put (cs := #[.int .i64 0, .string (⟨#[]⟩ : ByteArray), .string (⟨#[]⟩ : ByteArray), .slice none 0 0]) ?_ 0 _ rfl; (with_reducible repeat (first | apply d1 | apply d2 | apply d3)); exact BK244.out))⟩; have n2_ : Aside0 (Below w.heap.size w w59) := ⟨(by rw [hw]; exact aE)⟩; clear hw; clear HO_4; clear BK244; clear HB; have HO_4 := n0_; have BK244 := n1_; have HB := n2_; clear n0_ n1_ n2_; have hcz60_0 : w59.cell? ⟨gb244, 0, none⟩ = some (.int .i64 ((rd_T39 l0 x28_2).f0)) := (blk_cell BK244.out 0).trans rfl; have hcz60_1 : w59.cell? ⟨gb244, 1, none⟩ = some (.string ((rd_T39 l0 x28_2).f1)) := (blk_cell BK244.out 1).trans rfl; have hcz60_2 : w59.cell? ⟨gb244, 2, none⟩ = some (.string ((rd_T39 l0 x28_2).f2)) := (blk_cell BK244.out 2).trans rfl; have hcz60_3 : w59.cell? ⟨gb244, 3, none⟩ = some (.slice A243_3 ((rd_T39 l0 x28_2).f3).length c243_3) := (blk_cell BK244.out 3).trans rfl; have hfz60_0 := blk_frozen BK244.out 0; have hfz60_1 := blk_frozen BK244.out 1; have hfz60_2 := blk_frozen BK244.out 2; have hfz60_3 := blk_frozen BK244.out 3) | (go_at_call 27; (with_reducible refine (impl_Item_isGood.calls k2 ((rd_T39 l0 x28_2).f0) ((rd_T39 l0 x28_2).f1) ((rd_T39 l0 x28_2).f2) _ _ ((rd_T39 l0 x28_2).f3) false _ ?side1 ?side2 ?side3 A13.out).mono ?_); (case side1 => exact GL.below HGL.out aE); (case side2 => repeat (first | exact (Kd.C_below HR243_3.out HB.out) | (with_reducible refine Kd.C_alloc ?_ _) | (with_reducible refine Kd.C_drewN ?_ _) | (with_reducible refine Kd.C_drew ?_))); (case side3 => exact HC243_3.out); rintro e w61 ⟨rfl, hb⟩; have n0_ := Aside0.mk (Kd.R_below (aP HO_4.out) hb); have n1_ := Aside0.mk (blk_below (g := gb244) (o := .cells #[.int .i64 ((rd_T39 l0 x28_2).f0), .string ((rd_T39 l0 x28_2).f1), .string ((rd_T39 l0 x28_2).f2), .slice A243_3 ((rd_T39 l0 x28_2).f3).length c243_3] 39 (0, 0)) (aP BK244.out) hb); have n2_ := Aside0.mk (below_step aE hb); clear HO_4; clear BK244; clear HB; have HO_4 := n0_; have BK244 := n1_; have HB := n2_; clear n0_ n1_ n2_; (try clear hb); (try clear hb2); (try clear hk); (try clear hi))); try go_wp2_with (first | ((with_reducible refine gate_dst (N := 6) rfl ?_); (try (refine gate_guard (by rfl) ?_; dsimp only)); refine box_event ?hg (N := 6) ?hd (cs := #[.int .i64 0, .string (⟨#[]⟩ : ByteArray), .string (⟨#[]⟩ : ByteArray), .slice none 0 0]) (t := 39) ?hr ?_; (case hd => rfl); (case hg => rfl); (case hr => first | (go_simp; done) | (go_simp; rfl)); intro gb244 hg w57 hbox hb; have n0_ := Aside0.mk (Kd.R_below (aP HO_4.out) hb); have n1_ := Aside0.mk (below_step aB hb); have n2_ := Aside0.mk (hbox); have n3_ := Aside0.mk ((by rw [hg]; exact (below_size aB) : w.heap.size ≤ gb244)); have n4_ := Aside0.mk ((by rw [hg]; exact (below_size aB) : w.heap.size ≤ gb244)); clear HO_4; clear HB; have HO_4 := n0_; have HB := n1_; have BK244 := n2_; have GW244 := n3_; have GE244 := n4_; clear n0_ n1_ n2_ n3_ n4_; clear hb hbox hg; have hcz58_0 : w57.cell? ⟨gb244, 0, none⟩ = some (.int .i64 0) := (blk_cell BK244.out 0).trans rfl; have hcz58_1 : w57.cell? ⟨gb244, 1, none⟩ = some (.string (⟨#[]⟩ : ByteArray)) := (blk_cell BK244.out 1).trans rfl; have hcz58_2 : w57.cell? ⟨gb244, 2, none⟩ = some (.string (⟨#[]⟩ : ByteArray)) := (blk_cell BK244.out 2).trans rfl; have hcz58_3 : w57.cell? ⟨gb244, 3, none⟩ = some (.slice none 0 0) := (blk_cell BK244.out 3).trans rfl; have hfz58_0 := blk_frozen BK244.out 0; have hfz58_1 := blk_frozen BK244.out 1; have hfz58_2 := blk_frozen BK244.out 2; have hfz58_3 := blk_frozen BK244.out 3) | ((with_reducible refine gate_store (t := 39) (p := 6) rfl ?_); (try (rw [drewN_self w57]; generalize hq_ : World.drewN w57 _ = w57; have n0_ := Aside0.mk (Kd.R_at hq_ HO_4.out); have n1_ := Aside0.mk (blk_at hq_ BK244.out); have n2_ := Aside0.mk (below_at hq_ HB.out); clear hq_ HO_4 BK244 HB; have HO_4 := n0_; have BK244 := n1_; have HB := n2_; clear n0_ n1_ n2_)); refine store_event (t := 39) (p := 6) (v := ?vo_w59) (w1 := ((((w57.setCell ⟨gb244, 0, none⟩ (.int .i64 ((rd_T39 l0 x28_2).f0))).setCell ⟨gb244, 1, none⟩ (.string ((rd_T39 l0 x28_2).f1))).setCell ⟨gb244, 2, none⟩ (.string ((rd_T39 l0 x28_2).f2))).setCell ⟨gb244, 3, none⟩ (.slice A243_3 ((rd_T39 l0 x28_2).f3).length c243_3))) ?hg ?ho ?hn ?hr ?_; (case ho => rfl); (case hg => rfl); (case hn => rfl); (case hr => first | (go_simp; done) | (go_simp; rfl)); intro w59 hw; have n0_ : Aside0 (Kd.R (Kd.int .i64) 2 w59 w.heap.size (fun _ => True) u4 x4_2) := ⟨(by rw [hw]; exact (by (with_reducible repeat (first | apply Kd.R_alloc | apply Kd.R_drewN | apply Kd.R_drew)); exact Kd.R_mono (Kd.R_far (p := ⟨gb244, 3, none⟩) (Kd.R_far (p := ⟨gb244, 2, none⟩) (Kd.R_far (p := ⟨gb244, 1, none⟩) (Kd.R_far (p := ⟨gb244, 0, none⟩) (Kd.R_types HO_4.out BK244.out (by decide)) (fun _ hk => hk.2) (.int .i64 ((rd_T39 l0 x28_2).f0))) (fun _ hk => hk.2) (.string ((rd_T39 l0 x28_2).f1))) (fun _ hk => hk.2) (.string ((rd_T39 l0 x28_2).f2))) (fun _ hk => hk.2) (.slice A243_3 ((rd_T39 l0 x28_2).f3).length c243_3)) (fun _ hk => trivial)))⟩; have n1_ : Aside0 (w59.heap[gb244]? = some (.cells #[.int .i64 ((rd_T39 l0 x28_2).f0), .string ((rd_T39 l0 x28_2).f1), .string ((rd_T39 l0 x28_2).f2), .slice A243_3 ((rd_T39 l0 x28_2).f3).length c243_3] 39 (0, 0))) := ⟨(by rw [hw]; exact (by (with_reducible repeat (first | apply d1 | apply d2 | apply d3)); refine blk_put (cs := #[.int .i64 ((rd_T39 l0 x28_2).f0), .string ((rd_T39 l0 x28_2).f1), .string ((rd_T39 l0 x28_2).f2), .slice none 0 0]) ?_ 3 _ rfl; (with_reducible repeat (first | apply d1 | apply d2 | apply d3)); refine blk_put (cs := #[.int .i64 ((rd_T39 l0 x28_2).f0), .string ((rd_T39 l0 x28_2).f1), .string (⟨#[]⟩ : ByteArray), .slice none 0 0]) ?_ 2 _ rfl; (with_reducible repeat (first | apply d1 | apply d2 | apply d3)); refine blk_put (cs := #[.int .i64 ((rd_T39 l0 x28_2).f0), .string (⟨#[]⟩ : ByteArray), .string (⟨#[]⟩ : ByteArray), .slice none 0 0]) ?_ 1 _ rfl; (with_reducible repeat (first | apply d1 | apply d2 | apply d3)); refine blk_put (cs := #[.int .i64 0, .string (⟨#[]⟩ : ByteArray), .string (⟨#[]⟩ : ByteArray), .slice none 0 0]) ?_ 0 _ rfl; (with_reducible repeat (first | apply d1 | apply d2 | apply d3)); exact BK244.out))⟩; have n2_ : Aside0 (Below w.heap.size w w59) := ⟨(by rw [hw]; exact aE)⟩; clear hw; clear HO_4; clear BK244; clear HB; have HO_4 := n0_; have BK244 := n1_; have HB := n2_; clear n0_ n1_ n2_; have hcz60_0 : w59.cell? ⟨gb244, 0, none⟩ = some (.int .i64 ((rd_T39 l0 x28_2).f0)) := (blk_cell BK244.out 0).trans rfl; have hcz60_1 : w59.cell? ⟨gb244, 1, none⟩ = some (.string ((rd_T39 l0 x28_2).f1)) := (blk_cell BK244.out 1).trans rfl; have hcz60_2 : w59.cell? ⟨gb244, 2, none⟩ = some (.string ((rd_T39 l0 x28_2).f2)) := (blk_cell BK244.out 2).trans rfl; have hcz60_3 : w59.cell? ⟨gb244, 3, none⟩ = some (.slice A243_3 ((rd_T39 l0 x28_2).f3).length c243_3) := (blk_cell BK244.out 3).trans rfl; have hfz60_0 := blk_frozen BK244.out 0; have hfz60_1 := blk_frozen BK244.out 1; have hfz60_2 := blk_frozen BK244.out 2; have hfz60_3 := blk_frozen BK244.out 3) | (go_at_call 27; (with_reducible refine (impl_Item_isGood.calls k2 ((rd_T39 l0 x28_2).f0) ((rd_T39 l0 x28_2).f1) ((rd_T39 l0 x28_2).f2) _ _ ((rd_T39 l0 x28_2).f3) false _ ?side1 ?side2 ?side3 A13.out).mono ?_); (case side1 => exact GL.below HGL.out aE); (case side2 => repeat (first | exact (Kd.C_below HR243_3.out HB.out) | (with_reducible refine Kd.C_alloc ?_ _) | (with_reducible refine Kd.C_drewN ?_ _) | (with_reducible refine Kd.C_drew ?_))); (case side3 => exact HC243_3.out); rintro e w61 ⟨rfl, hb⟩; have n0_ := Aside0.mk (Kd.R_below (aP HO_4.out) hb); have n1_ := Aside0.mk (blk_below (g := gb244) (o := .cells #[.int .i64 ((rd_T39 l0 x28_2).f0), .string ((rd_T39 l0 x28_2).f1), .string ((rd_T39 l0 x28_2).f2), .slice A243_3 ((rd_T39 l0 x28_2).f3).length c243_3] 39 (0, 0)) (aP BK244.out) hb); have n2_ := Aside0.mk (below_step aE hb); clear HO_4; clear BK244; clear HB; have HO_4 := n0_; have BK244 := n1_; have HB := n2_; clear n0_ n1_ n2_; (try clear hb); (try clear hb2); (try clear hk); (try clear hi))))
      go_ret
      exact ⟨by first | rfl | (simp only [aX1, aX2]; rfl) | (simp [*] <;> rfl), aE⟩
     subst c14
     have H1 : ((impl_Item_bytes.f k2 ((rd_T39 l0 x28_2).f0) ((rd_T39 l0 x28_2).f1) ((rd_T39 l0 x28_2).f2) ((rd_T39 l0 x28_2).f3)).bind fun t246 => (impl_DocOk.l1 k2 l0 (wrap64 (x3_2 + t246)) x4_2 x28_2 l0 (l0.length : Int) x28_2 ((rd_T39 l0 x28_2).f0) ((rd_T39 l0 x28_2).f1) ((rd_T39 l0 x28_2).f2) ((rd_T39 l0 x28_2).f3))) = some r := by rw [if_pos rfl] at H; exact H
     clear H
     have H := H1
     clear H1
     replace H := Option.bind_eq_some_iff.mp H
     obtain ⟨t246, A150, H⟩ := H
     replace H : (impl_DocOk.l1 k2 l0 (wrap64 (x3_2 + t246)) x4_2 x28_2 l0 (l0.length : Int) x28_2 ((rd_T39 l0 x28_2).f0) ((rd_T39 l0 x28_2).f1) ((rd_T39 l0 x28_2).f2) ((rd_T39 l0 x28_2).f3)) = some r := H
     have A15 := Aside0.mk A150
     clear A150
     have HC16 := Aside0.mk H
     clear H
     have p243 : 0 ≤ (x28_2 : Int) := aD
     have q243 : x28_2 < (l0.length : Int) := aD
     obtain ⟨ad243, A243_3, c243_3, e243, hx243_0, hx243_1, hx243_2, hx243_3, hl243_3, hi243_3⟩ := at_T39 HR0.out x28_2 p243 q243
     cases e243
     replace hx243_0 := (HB.out.cell (World.block_lt_of_cell? w _ hx243_0)).trans hx243_0
     replace hx243_1 := (HB.out.cell (World.block_lt_of_cell? w _ hx243_1)).trans hx243_1
     replace hx243_2 := (HB.out.cell (World.block_lt_of_cell? w _ hx243_2)).trans hx243_2
     replace hx243_3 := (HB.out.cell (World.block_lt_of_cell? w _ hx243_3)).trans hx243_3
     have HR243_3 := Aside0.mk hi243_3
     have HC243_3 := Aside0.mk hl243_3
     clear hi243_3 hl243_3
     replace p243 := eq_true p243
     replace q243 := eq_true q243
     go_upto_block 2 with (first | ((with_reducible refine gate_dst (N := 6) rfl ?_); (try (refine gate_guard (by rfl) ?_; dsimp only)); refine box_event ?hg (N := 6) ?hd (cs := #[.int .i64 0, .string (⟨#[]⟩ : ByteArray), .string (⟨#[]⟩ : ByteArray), .slice none 0 0]) (t := 39) ?hr ?_; (case hd => rfl); (case hg => rfl); (case hr => first | (go_simp; done) | (go_simp; rfl)); intro gb244 hg w17 hbox hb; have n0_ := Aside0.mk (Kd.R_below (aP HO_4.out) hb); have n1_ := Aside0.mk (below_step aB hb); have n2_ := Aside0.mk (hbox); have n3_ := Aside0.mk ((by rw [hg]; exact (below_size aB) : w.heap.size ≤ gb244)); have n4_ := Aside0.mk ((by rw [hg]; exact (below_size aB) : w.heap.size ≤ gb244)); clear HO_4; clear HB; have HO_4 := n0_; have HB := n1_; have BK244 := n2_; have GW244 := n3_; have GE244 := n4_; clear n0_ n1_ n2_ n3_ n4_; clear hb hbox hg; have hcz18_0 : w17.cell? ⟨gb244, 0, none⟩ = some (.int .i64 0) := (blk_cell BK244.out 0).trans rfl; have hcz18_1 : w17.cell? ⟨gb244, 1, none⟩ = some (.string (⟨#[]⟩ : ByteArray)) := (blk_cell BK244.out 1).trans rfl; have hcz18_2 : w17.cell? ⟨gb244, 2, none⟩ = some (.string (⟨#[]⟩ : ByteArray)) := (blk_cell BK244.out 2).trans rfl; have hcz18_3 : w17.cell? ⟨gb244, 3, none⟩ = some (.slice none 0 0) := (blk_cell BK244.out 3).trans rfl; have hfz18_0 := blk_frozen BK244.out 0; have hfz18_1 := blk_frozen BK244.out 1; have hfz18_2 := blk_frozen BK244.out 2; have hfz18_3 := blk_frozen BK244.out 3) | ((with_reducible refine gate_store (t := 39) (p := 6) rfl ?_); (try (rw [drewN_self w17]; generalize hq_ : World.drewN w17 _ = w17; have n0_ := Aside0.mk (Kd.R_at hq_ HO_4.out); have n1_ := Aside0.mk (blk_at hq_ BK244.out); have n2_ := Aside0.mk (below_at hq_ HB.out); clear hq_ HO_4 BK244 HB; have HO_4 := n0_; have BK244 := n1_; have HB := n2_; clear n0_ n1_ n2_)); refine store_event (t := 39) (p := 6) (v := ?vo_w19) (w1 := ((((w17.setCell ⟨gb244, 0, none⟩ (.int .i64 ((rd_T39 l0 x28_2).f0))).setCell ⟨gb244, 1, none⟩ (.string ((rd_T39 l0 x28_2).f1))).setCell ⟨gb244, 2, none⟩ (.string ((rd_T39 l0 x28_2).f2))).setCell ⟨gb244, 3, none⟩ (.slice A243_3 ((rd_T39 l0 x28_2).f3).length c243_3))) ?hg ?ho ?hn ?hr ?_; (case ho => rfl); (case hg => rfl); (case hn => rfl); (case hr => first | (go_simp; done) | (go_simp; rfl)); intro w19 hw; have n0_ : Aside0 (Kd.R (Kd.int .i64) 2 w19 w.heap.size (fun _ => True) u4 x4_2) := ⟨(by rw [hw]; exact (by (with_reducible repeat (first | apply Kd.R_alloc | apply Kd.R_drewN | apply Kd.R_drew)); exact Kd.R_mono (Kd.R_far (p := ⟨gb244, 3, none⟩) (Kd.R_far (p := ⟨gb244, 2, none⟩) (Kd.R_far (p := ⟨gb244, 1, none⟩) (Kd.R_far (p := ⟨gb244, 0, none⟩) (Kd.R_types HO_4.out BK244.out (by decide)) (fun _ hk => hk.2) (.int .i64 ((rd_T39 l0 x28_2).f0))) (fun _ hk => hk.2) (.string ((rd_T39 l0 x28_2).f1))) (fun _ hk => hk.2) (.string ((rd_T39 l0 x28_2).f2))) (fun _ hk => hk.2) (.slice A243_3 ((rd_T39 l0 x28_2).f3).length c243_3)) (fun _ hk => trivial)))⟩; have n1_ : Aside0 (w19.heap[gb244]? = some (.cells #[.int .i64 ((rd_T39 l0 x28_2).f0), .string ((rd_T39 l0 x28_2).f1), .string ((rd_T39 l0 x28_2).f2), .slice A243_3 ((rd_T39 l0 x28_2).f3).length c243_3] 39 (0, 0))) := ⟨(by rw [hw]; exact (by (with_reducible repeat (first | apply d1 | apply d2 | apply d3)); refine blk_put (cs := #[.int .i64 ((rd_T39 l0 x28_2).f0), .string ((rd_T39 l0 x28_2).f1), .string ((rd_T39 l0 x28_2).f2), .slice none 0 0]) ?_ 3 _ rfl; (with_reducible repeat (first | apply d1 | apply d2 | apply d3)); refine blk_put (cs := #[.int .i64 ((rd_T39 l0 x28_2).f0), .string ((rd_T39 l0 x28_2).f1), .string (⟨#[]⟩ : ByteArray), .slice none 0 0]) ?_ 2 _ rfl; (with_reducible repeat (first | apply d1 | apply d2 | apply d3)); refine blk_put (cs := #[.int .i64 ((rd_T39 l0 x28_2).f0), .string (⟨#[]⟩ : ByteArray), .string (⟨#[]⟩ : ByteArray), .slice none 0 0]) ?_ 1 _ rfl; (with_reducible repeat (first | apply d1 | apply d2 | apply d3)); refine blk_put (cs := #[.int .i64 0, .string (⟨#[]⟩ : ByteArray), .string (⟨#[]⟩ : ByteArray), .slice none 0 0]) ?_ 0 _ rfl; (with_reducible repeat (first | apply d1 | apply d2 | apply d3)); exact BK244.out))⟩; have n2_ : Aside0 (Below w.heap.size w w19) := ⟨(by rw [hw]; exact aE)⟩; clear hw; clear HO_4; clear BK244; clear HB; have HO_4 := n0_; have BK244 := n1_; have HB := n2_; clear n0_ n1_ n2_; have hcz20_0 : w19.cell? ⟨gb244, 0, none⟩ = some (.int .i64 ((rd_T39 l0 x28_2).f0)) := (blk_cell BK244.out 0).trans rfl; have hcz20_1 : w19.cell? ⟨gb244, 1, none⟩ = some (.string ((rd_T39 l0 x28_2).f1)) := (blk_cell BK244.out 1).trans rfl; have hcz20_2 : w19.cell? ⟨gb244, 2, none⟩ = some (.string ((rd_T39 l0 x28_2).f2)) := (blk_cell BK244.out 2).trans rfl; have hcz20_3 : w19.cell? ⟨gb244, 3, none⟩ = some (.slice A243_3 ((rd_T39 l0 x28_2).f3).length c243_3) := (blk_cell BK244.out 3).trans rfl; have hfz20_0 := blk_frozen BK244.out 0; have hfz20_1 := blk_frozen BK244.out 1; have hfz20_2 := blk_frozen BK244.out 2; have hfz20_3 := blk_frozen BK244.out 3) | (go_at_call 27; (with_reducible refine (impl_Item_isGood.calls k2 ((rd_T39 l0 x28_2).f0) ((rd_T39 l0 x28_2).f1) ((rd_T39 l0 x28_2).f2) _ _ ((rd_T39 l0 x28_2).f3) true _ ?side1 ?side2 ?side3 A13.out).mono ?_); (case side1 => exact GL.below HGL.out aE); (case side2 => repeat (first | exact (Kd.C_below HR243_3.out HB.out) | (with_reducible refine Kd.C_alloc ?_ _) | (with_reducible refine Kd.C_drewN ?_ _) | (with_reducible refine Kd.C_drew ?_))); (case side3 => exact HC243_3.out); rintro e w21 ⟨rfl, hb⟩; have n0_ := Aside0.mk (Kd.R_below (aP HO_4.out) hb); have n1_ := Aside0.mk (blk_below (g := gb244) (o := .cells #[.int .i64 ((rd_T39 l0 x28_2).f0), .string ((rd_T39 l0 x28_2).f1), .string ((rd_T39 l0 x28_2).f2), .slice A243_3 ((rd_T39 l0 x28_2).f3).length c243_3] 39 (0, 0)) (aP BK244.out) hb); have n2_ := Aside0.mk (below_step aE hb); clear HO_4; clear BK244; clear HB; have HO_4 := n0_; have BK244 := n1_; have HB := n2_; clear n0_ n1_ n2_; (try clear hb); (try clear hb2); (try clear hk); (try clear hi); have hcz22_0 : w21.cell? ⟨gb244, 0, none⟩ = some (.int .i64 ((rd_T39 l0 x28_2).f0)) := (blk_cell BK244.out 0).trans rfl; have hcz22_1 : w21.cell? ⟨gb244, 1, none⟩ = some (.string ((rd_T39 l0 x28_2).f1)) := (blk_cell BK244.out 1).trans rfl; have hcz22_2 : w21.cell? ⟨gb244, 2, none⟩ = some (.string ((rd_T39 l0 x28_2).f2)) := (blk_cell BK244.out 2).trans rfl; have hcz22_3 : w21.cell? ⟨gb244, 3, none⟩ = some (.slice A243_3 ((rd_T39 l0 x28_2).f3).length c243_3) := (blk_cell BK244.out 3).trans rfl; have hfz22_0 := blk_frozen BK244.out 0; have hfz22_1 := blk_frozen BK244.out 1; have hfz22_2 := blk_frozen BK244.out 2; have hfz22_3 := blk_frozen BK244.out 3) | (go_at_call 28; (with_reducible refine (impl_Item_bytes.calls k2 ((rd_T39 l0 x28_2).f0) ((rd_T39 l0 x28_2).f1) ((rd_T39 l0 x28_2).f2) _ _ ((rd_T39 l0 x28_2).f3) t246 _ ?side1 ?side2 A15.out).mono ?_); (case side1 => repeat (first | exact (Kd.C_below HR243_3.out HB.out) | (with_reducible refine Kd.C_alloc ?_ _) | (with_reducible refine Kd.C_drewN ?_ _) | (with_reducible refine Kd.C_drew ?_))); (case side2 => exact HC243_3.out); rintro e w23 ⟨rfl, hb⟩; have n0_ := Aside0.mk (Kd.R_below (aP HO_4.out) hb); have n1_ := Aside0.mk (blk_below (g := gb244) (o := .cells #[.int .i64 ((rd_T39 l0 x28_2).f0), .string ((rd_T39 l0 x28_2).f1), .string ((rd_T39 l0 x28_2).f2), .slice A243_3 ((rd_T39 l0 x28_2).f3).length c243_3] 39 (0, 0)) (aP BK244.out) hb); have n2_ := Aside0.mk (below_step aE hb); clear HO_4; clear BK244; clear HB; have HO_4 := n0_; have BK244 := n1_; have HB := n2_; clear n0_ n1_ n2_; (try clear hb); (try clear hb2); (try clear hk); (try clear hi)))
     repeat (go_quiet (first | ((with_reducible refine gate_dst (N := 6) rfl ?_); (try (refine gate_guard (by rfl) ?_; dsimp only)); refine box_event ?hg (N := 6) ?hd (cs := #[.int .i64 0, .string (⟨#[]⟩ : ByteArray), .string (⟨#[]⟩ : ByteArray), .slice none 0 0]) (t := 39) ?hr ?_; (case hd => rfl); (case hg => rfl); (case hr => first | (go_simp; done) | (go_simp; rfl)); intro gb244 hg w17 hbox hb; have n0_ := Aside0.mk (Kd.R_below (aP HO_4.out) hb); have n1_ := Aside0.mk (below_step aB hb); have n2_ := Aside0.mk (hbox); have n3_ := Aside0.mk ((by rw [hg]; exact (below_size aB) : w.heap.size ≤ gb244)); have n4_ := Aside0.mk ((by rw [hg]; exact (below_size aB) : w.heap.size ≤ gb244)); clear HO_4; clear HB; have HO_4 := n0_; have HB := n1_; have BK244 := n2_; have GW244 := n3_; have GE244 := n4_; clear n0_ n1_ n2_ n3_ n4_; clear hb hbox hg; have hcz18_0 : w17.cell? ⟨gb244, 0, none⟩ = some (.int .i64 0) := (blk_cell BK244.out 0).trans rfl; have hcz18_1 : w17.cell? ⟨gb244, 1, none⟩ = some (.string (⟨#[]⟩ : ByteArray)) := (blk_cell BK244.out 1).trans rfl; have hcz18_2 : w17.cell? ⟨gb244, 2, none⟩ = some (.string (⟨#[]⟩ : ByteArray)) := (blk_cell BK244.out 2).trans rfl; have hcz18_3 : w17.cell? ⟨gb244, 3, none⟩ = some (.slice none 0 0) := (blk_cell BK244.out 3).trans rfl; have hfz18_0 := blk_frozen BK244.out 0; have hfz18_1 := blk_frozen BK244.out 1; have hfz18_2 := blk_frozen BK244.out 2; have hfz18_3 := blk_frozen BK244.out 3) | ((with_reducible refine gate_store (t := 39) (p := 6) rfl ?_); (try (rw [drewN_self w17]; generalize hq_ : World.drewN w17 _ = w17; have n0_ := Aside0.mk (Kd.R_at hq_ HO_4.out); have n1_ := Aside0.mk (blk_at hq_ BK244.out); have n2_ := Aside0.mk (below_at hq_ HB.out); clear hq_ HO_4 BK244 HB; have HO_4 := n0_; have BK244 := n1_; have HB := n2_; clear n0_ n1_ n2_)); refine store_event (t := 39) (p := 6) (v := ?vo_w19) (w1 := ((((w17.setCell ⟨gb244, 0, none⟩ (.int .i64 ((rd_T39 l0 x28_2).f0))).setCell ⟨gb244, 1, none⟩ (.string ((rd_T39 l0 x28_2).f1))).setCell ⟨gb244, 2, none⟩ (.string ((rd_T39 l0 x28_2).f2))).setCell ⟨gb244, 3, none⟩ (.slice A243_3 ((rd_T39 l0 x28_2).f3).length c243_3))) ?hg ?ho ?hn ?hr ?_; (case ho => rfl); (case hg => rfl); (case hn => rfl); (case hr => first | (go_simp; done) | (go_simp; rfl)); intro w19 hw; have n0_ : Aside0 (Kd.R (Kd.int .i64) 2 w19 w.heap.size (fun _ => True) u4 x4_2) := ⟨(by rw [hw]; exact (by (with_reducible repeat (first | apply Kd.R_alloc | apply Kd.R_drewN | apply Kd.R_drew)); exact Kd.R_mono (Kd.R_far (p := ⟨gb244, 3, none⟩) (Kd.R_far (p := ⟨gb244, 2, none⟩) (Kd.R_far (p := ⟨gb244, 1, none⟩) (Kd.R_far (p := ⟨gb244, 0, none⟩) (Kd.R_types HO_4.out BK244.out (by decide)) (fun _ hk => hk.2) (.int .i64 ((rd_T39 l0 x28_2).f0))) (fun _ hk => hk.2) (.string ((rd_T39 l0 x28_2).f1))) (fun _ hk => hk.2) (.string ((rd_T39 l0 x28_2).f2))) (fun _ hk => hk.2) (.slice A243_3 ((rd_T39 l0 x28_2).f3).length c243_3)) (fun _ hk => trivial)))⟩; have n1_ : Aside0 (w19.heap[gb244]? = some (.cells #[.int .i64 ((rd_T39 l0 x28_2).f0), .string ((rd_T39 l0 x28_2).f1), .string ((rd_T39 l0 x28_2).f2), .slice A243_3 ((rd_T39 l0 x28_2).f3).length c243_3] 39 (0, 0))) := ⟨(by rw [hw]; exact (by (with_reducible repeat (first | apply d1 | apply d2 | apply d3)); refine blk_put (cs := #[.int .i64 ((rd_T39 l0 x28_2).f0), .string ((rd_T39 l0 x28_2).f1), .string ((rd_T39 l0 x28_2).f2), .slice none 0 0]) ?_ 3 _ rfl; (with_reducible repeat (first | apply d1 | apply d2 | apply d3)); refine blk_put (cs := #[.int .i64 ((rd_T39 l0 x28_2).f0), .string ((rd_T39 l0 x28_2).f1), .string (⟨#[]⟩ : ByteArray), .slice none 0 0]) ?_ 2 _ rfl; (with_reducible repeat (first | apply d1 | apply d2 | apply d3)); refine blk_put (cs := #[.int .i64 ((rd_T39 l0 x28_2).f0), .string (⟨#[]⟩ : ByteArray), .string (⟨#[]⟩ : ByteArray), .slice none 0 0]) ?_ 1 _ rfl; (with_reducible repeat (first | apply d1 | apply d2 | apply d3)); refine blk_put (cs := #[.int .i64 0, .string (⟨#[]⟩ : ByteArray), .string (⟨#[]⟩ : ByteArray), .slice none 0 0]) ?_ 0 _ rfl; (with_reducible repeat (first | apply d1 | apply d2 | apply d3)); exact BK244.out))⟩; have n2_ : Aside0 (Below w.heap.size w w19) := ⟨(by rw [hw]; exact aE)⟩; clear hw; clear HO_4; clear BK244; clear HB; have HO_4 := n0_; have BK244 := n1_; have HB := n2_; clear n0_ n1_ n2_; have hcz20_0 : w19.cell? ⟨gb244, 0, none⟩ = some (.int .i64 ((rd_T39 l0 x28_2).f0)) := (blk_cell BK244.out 0).trans rfl; have hcz20_1 : w19.cell? ⟨gb244, 1, none⟩ = some (.string ((rd_T39 l0 x28_2).f1)) := (blk_cell BK244.out 1).trans rfl; have hcz20_2 : w19.cell? ⟨gb244, 2, none⟩ = some (.string ((rd_T39 l0 x28_2).f2)) := (blk_cell BK244.out 2).trans rfl; have hcz20_3 : w19.cell? ⟨gb244, 3, none⟩ = some (.slice A243_3 ((rd_T39 l0 x28_2).f3).length c243_3) := (blk_cell BK244.out 3).trans rfl; have hfz20_0 := blk_frozen BK244.out 0; have hfz20_1 := blk_frozen BK244.out 1; have hfz20_2 := blk_frozen BK244.out 2; have hfz20_3 := blk_frozen BK244.out 3) | (go_at_call 27; (with_reducible refine (impl_Item_isGood.calls k2 ((rd_T39 l0 x28_2).f0) ((rd_T39 l0 x28_2).f1) ((rd_T39 l0 x28_2).f2) _ _ ((rd_T39 l0 x28_2).f3) true _ ?side1 ?side2 ?side3 A13.out).mono ?_); (case side1 => exact GL.below HGL.out aE); (case side2 => repeat (first | exact (Kd.C_below HR243_3.out HB.out) | (with_reducible refine Kd.C_alloc ?_ _) | (with_reducible refine Kd.C_drewN ?_ _) | (with_reducible refine Kd.C_drew ?_))); (case side3 => exact HC243_3.out); rintro e w21 ⟨rfl, hb⟩; have n0_ := Aside0.mk (Kd.R_below (aP HO_4.out) hb); have n1_ := Aside0.mk (blk_below (g := gb244) (o := .cells #[.int .i64 ((rd_T39 l0 x28_2).f0), .string ((rd_T39 l0 x28_2).f1), .string ((rd_T39 l0 x28_2).f2), .slice A243_3 ((rd_T39 l0 x28_2).f3).length c243_3] 39 (0, 0)) (aP BK244.out) hb); have n2_ := Aside0.mk (below_step aE hb); clear HO_4; clear BK244; clear HB; have HO_4 := n0_; have BK244 := n1_; have HB := n2_; clear n0_ n1_ n2_; (try clear hb); (try clear hb2); (try clear hk); (try clear hi); have hcz22_0 : w21.cell? ⟨gb244, 0, none⟩ = some (.int .i64 ((rd_T39 l0 x28_2).f0)) := (blk_cell BK244.out 0).trans rfl; have hcz22_1 : w21.cell? ⟨gb244, 1, none⟩ = some (.string ((rd_T39 l0 x28_2).f1)) := (blk_cell BK244.out 1).trans rfl; have hcz22_2 : w21.cell? ⟨gb244, 2, none⟩ = some (.string ((rd_T39 l0 x28_2).f2)) := (blk_cell BK244.out 2).trans rfl; have hcz22_3 : w21.cell? ⟨gb244, 3, none⟩ = some (.slice A243_3 ((rd_T39 l0 x28_2).f3).length c243_3) := (blk_cell BK244.out 3).trans rfl; have hfz22_0 := blk_frozen BK244.out 0; have hfz22_1 := blk_frozen BK244.out 1; have hfz22_2 := blk_frozen BK244.out 2; have hfz22_3 := blk_frozen BK244.out 3) | (go_at_call 28; (with_reducible refine (impl_Item_bytes.calls k2 ((rd_T39 l0 x28_2).f0) ((rd_T39 l0 x28_2).f1) ((rd_T39 l0 x28_2).f2) _ _ ((rd_T39 l0 x28_2).f3) t246 _ ?side1 ?side2 A15.out).mono ?_); (case side1 => repeat (first | exact (Kd.C_below HR243_3.out HB.out) | (with_reducible refine Kd.C_alloc ?_ _) | (with_reducible refine Kd.C_drewN ?_ _) | (with_reducible refine Kd.C_drew ?_))); (case side2 => exact HC243_3.out); rintro e w23 ⟨rfl, hb⟩; have n0_ := Aside0.mk (Kd.R_below (aP HO_4.out) hb); have n1_ := Aside0.mk (blk_below (g := gb244) (o := .cells #[.int .i64 ((rd_T39 l0 x28_2).f0), .string ((rd_T39 l0 x28_2).f1), .string ((rd_T39 l0 x28_2).f2), .slice A243_3 ((rd_T39 l0 x28_2).f3).length c243_3] 39 (0, 0)) (aP BK244.out) hb); have n2_ := Aside0.mk (below_step aE hb); clear HO_4; clear BK244; clear HB; have HO_4 := n0_; have BK244 := n1_; have HB := n2_; clear n0_ n1_ n2_; (try clear hb); (try clear hb2); (try clear hk); (try clear hi))); go_upto_block 2 with (first | ((with_reducible refine gate_dst (N := 6) rfl ?_); (try (refine gate_guard (by rfl) ?_; dsimp only)); refine box_event ?hg (N := 6) ?hd (cs := #[.int .i64 0, .string (⟨#[]⟩ : ByteArray), .string (⟨#[]⟩ : ByteArray), .slice none 0 0]) (t := 39) ?hr ?_; (case hd => rfl); (case hg => rfl); (case hr => first | (go_simp; done) | (go_simp; rfl)); intro gb244 hg w17 hbox hb; have n0_ := Aside0.mk (Kd.R_below (aP HO_4.out) hb); have n1_ := Aside0.mk (below_step aB hb); have n2_ := Aside0.mk (hbox); have n3_ := Aside0.mk ((by rw [hg]; exact (below_size aB) : w.heap.size ≤ gb244)); have n4_ := Aside0.mk ((by rw [hg]; exact (below_size aB) : w.heap.size ≤ gb244)); clear HO_4; clear HB; have HO_4 := n0_; have HB := n1_; have BK244 := n2_; have GW244 := n3_; have GE244 := n4_; clear n0_ n1_ n2_ n3_ n4_; clear hb hbox hg; have hcz18_0 : w17.cell? ⟨gb244, 0, none⟩ = some (.int .i64 0) := (blk_cell BK244.out 0).trans rfl; have hcz18_1 : w17.cell? ⟨gb244, 1, none⟩ = some (.string (⟨#[]⟩ : ByteArray)) := (blk_cell BK244.out 1).trans rfl; have hcz18_2 : w17.cell? ⟨gb244, 2, none⟩ = some (.string (⟨#[]⟩ : ByteArray)) := (blk_cell BK244.out 2).trans rfl; have hcz18_3 : w17.cell? ⟨gb244, 3, none⟩ = some (.slice none 0 0) := (blk_cell BK244.out 3).trans rfl; have hfz18_0 := blk_frozen BK244.out 0; have hfz18_1 := blk_frozen BK244.out 1; have hfz18_2 := blk_frozen BK244.out 2; have hfz18_3 := blk_frozen BK244.out 3) | ((with_reducible refine gate_store (t := 39) (p := 6) rfl ?_); (try (rw [drewN_self w17]; generalize hq_ : World.drewN w17 _ = w17; have n0_ := Aside0.mk (Kd.R_at hq_ HO_4.out); have n1_ := Aside0.mk (blk_at hq_ BK244.out); have n2_ := Aside0.mk (below_at hq_ HB.out); clear hq_ HO_4 BK244 HB; have HO_4 := n0_; have BK244 := n1_; have HB := n2_; clear n0_ n1_ n2_)); refine store_event (t := 39) (p := 6) (v := ?vo_w19) (w1 := ((((w17.setCell ⟨gb244, 0, none⟩ (.int .i64 ((rd_T39 l0 x28_2).f0))).setCell ⟨gb244, 1, none⟩ (.string ((rd_T39 l0 x28_2).f1))).setCell ⟨gb244, 2, none⟩ (.string ((rd_T39 l0 x28_2).f2))).setCell ⟨gb244, 3, none⟩ (.slice A243_3 ((rd_T39 l0 x28_2).f3).length c243_3))) ?hg ?ho ?hn ?hr ?_; (case ho => rfl); (case hg => rfl); (case hn => rfl); (case hr => first | (go_simp; done) | (go_simp; rfl)); intro w19 hw; have n0_ : Aside0 (Kd.R (Kd.int .i64) 2 w19 w.heap.size (fun _ => True) u4 x4_2) := ⟨(by rw [hw]; exact (by (with_reducible repeat (first | apply Kd.R_alloc | apply Kd.R_drewN | apply Kd.R_drew)); exact Kd.R_mono (Kd.R_far (p := ⟨gb244, 3, none⟩) (Kd.R_far (p := ⟨gb244, 2, none⟩) (Kd.R_far (p := ⟨gb244, 1, none⟩) (Kd.R_far (p := ⟨gb244, 0, none⟩) (Kd.R_types HO_4.out BK244.out (by decide)) (fun _ hk => hk.2) (.int .i64 ((rd_T39 l0 x28_2).f0))) (fun _ hk => hk.2) (.string ((rd_T39 l0 x28_2).f1))) (fun _ hk => hk.2) (.string ((rd_T39 l0 x28_2).f2))) (fun _ hk => hk.2) (.slice A243_3 ((rd_T39 l0 x28_2).f3).length c243_3)) (fun _ hk => trivial)))⟩; have n1_ : Aside0 (w19.heap[gb244]? = some (.cells #[.int .i64 ((rd_T39 l0 x28_2).f0), .string ((rd_T39 l0 x28_2).f1), .string ((rd_T39 l0 x28_2).f2), .slice A243_3 ((rd_T39 l0 x28_2).f3).length c243_3] 39 (0, 0))) := ⟨(by rw [hw]; exact (by (with_reducible repeat (first | apply d1 | apply d2 | apply d3)); refine blk_put (cs := #[.int .i64 ((rd_T39 l0 x28_2).f0), .string ((rd_T39 l0 x28_2).f1), .string ((rd_T39 l0 x28_2).f2), .slice none 0 0]) ?_ 3 _ rfl; (with_reducible repeat (first | apply d1 | apply d2 | apply d3)); refine blk_put (cs := #[.int .i64 ((rd_T39 l0 x28_2).f0), .string ((rd_T39 l0 x28_2).f1), .string (⟨#[]⟩ : ByteArray), .slice none 0 0]) ?_ 2 _ rfl; (with_reducible repeat (first | apply d1 | apply d2 | apply d3)); refine blk_put (cs := #[.int .i64 ((rd_T39 l0 x28_2).f0), .string (⟨#[]⟩ : ByteArray), .string (⟨#[]⟩ : ByteArray), .slice none 0 0]) ?_ 1 _ rfl; (with_reducible repeat (first | apply d1 | apply d2 | apply d3)); refine blk_put (cs := #[.int .i64 0, .string (⟨#[]⟩ : ByteArray), .string (⟨#[]⟩ : ByteArray), .slice none 0 0]) ?_ 0 _ rfl; (with_reducible repeat (first | apply d1 | apply d2 | apply d3)); exact BK244.out))⟩; have n2_ : Aside0 (Below w.heap.size w w19) := ⟨(by rw [hw]; exact aE)⟩; clear hw; clear HO_4; clear BK244; clear HB; have HO_4 := n0_; have BK244 := n1_; have HB := n2_; clear n0_ n1_ n2_; have hcz20_0 : w19.cell? ⟨gb244, 0, none⟩ = some (.int .i64 ((rd_T39 l0 x28_2).f0)) := (blk_cell BK244.out 0).trans rfl; have hcz20_1 : w19.cell? ⟨gb244, 1, none⟩ = some (.string ((rd_T39 l0 x28_2).f1)) := (blk_cell BK244.out 1).trans rfl; have hcz20_2 : w19.cell? ⟨gb244, 2, none⟩ = some (.string ((rd_T39 l0 x28_2).f2)) := (blk_cell BK244.out 2).trans rfl; have hcz20_3 : w19.cell? ⟨gb244, 3, none⟩ = some (.slice A243_3 ((rd_T39 l0 x28_2).f3).length c243_3) := (blk_cell BK244.out 3).trans rfl; have hfz20_0 := blk_frozen BK244.out 0; have hfz20_1 := blk_frozen BK244.out 1; have hfz20_2 := blk_frozen BK244.out 2; have hfz20_3 := blk_frozen BK244.out 3) | (go_at_call 27; (with_reducible refine (impl_Item_isGood.calls k2 ((rd_T39 l0 x28_2).f0) ((rd_T39 l0 x28_2).f1) ((rd_T39 l0 x28_2).f2) _ _ ((rd_T39 l0 x28_2).f3) true _ ?side1 ?side2 ?side3 A13.out).mono ?_); (case side1 => exact GL.below HGL.out aE); (case side2 => repeat (first | exact (Kd.C_below HR243_3.out HB.out) | (with_reducible refine Kd.C_alloc ?_ _) | (with_reducible refine Kd.C_drewN ?_ _) | (with_reducible refine Kd.C_drew ?_))); (case side3 => exact HC243_3.out); rintro e w21 ⟨rfl, hb⟩; have n0_ := Aside0.mk (Kd.R_below (aP HO_4.out) hb); have n1_ := Aside0.mk (blk_below (g := gb244) (o := .cells #[.int .i64 ((rd_T39 l0 x28_2).f0), .string ((rd_T39 l0 x28_2).f1), .string ((rd_T39 l0 x28_2).f2), .slice A243_3 ((rd_T39 l0 x28_2).f3).length c243_3] 39 (0, 0)) (aP BK244.out) hb); have n2_ := Aside0.mk (below_step aE hb); clear HO_4; clear BK244; clear HB; have HO_4 := n0_; have BK244 := n1_; have HB := n2_; clear n0_ n1_ n2_; (try clear hb); (try clear hb2); (try clear hk); (try clear hi); have hcz22_0 : w21.cell? ⟨gb244, 0, none⟩ = some (.int .i64 ((rd_T39 l0 x28_2).f0)) := (blk_cell BK244.out 0).trans rfl; have hcz22_1 : w21.cell? ⟨gb244, 1, none⟩ = some (.string ((rd_T39 l0 x28_2).f1)) := (blk_cell BK244.out 1).trans rfl; have hcz22_2 : w21.cell? ⟨gb244, 2, none⟩ = some (.string ((rd_T39 l0 x28_2).f2)) := (blk_cell BK244.out 2).trans rfl; have hcz22_3 : w21.cell? ⟨gb244, 3, none⟩ = some (.slice A243_3 ((rd_T39 l0 x28_2).f3).length c243_3) := (blk_cell BK244.out 3).trans rfl; have hfz22_0 := blk_frozen BK244.out 0; have hfz22_1 := blk_frozen BK244.out 1; have hfz22_2 := blk_frozen BK244.out 2; have hfz22_3 := blk_frozen BK244.out 3) | (go_at_call 28; (with_reducible refine (impl_Item_bytes.calls k2 ((rd_T39 l0 x28_2).f0) ((rd_T39 l0 x28_2).f1) ((rd_T39 l0 x28_2).f2) _ _ ((rd_T39 l0 x28_2).f3) t246 _ ?side1 ?side2 A15.out).mono ?_); (case side1 => repeat (first | exact (Kd.C_below HR243_3.out HB.out) | (with_reducible refine Kd.C_alloc ?_ _) | (with_reducible refine Kd.C_drewN ?_ _) | (with_reducible refine Kd.C_drew ?_))); (case side2 => exact HC243_3.out); rintro e w23 ⟨rfl, hb⟩; have n0_ := Aside0.mk (Kd.R_below (aP HO_4.out) hb); have n1_ := Aside0.mk (blk_below (g := gb244) (o := .cells #[.int .i64 ((rd_T39 l0 x28_2).f0), .string ((rd_T39 l0 x28_2).f1), .string ((rd_T39 l0 x28_2).f2), .slice A243_3 ((rd_T39 l0 x28_2).f3).length c243_3] 39 (0, 0)) (aP BK244.out) hb); have n2_ := Aside0.mk (below_step aE hb); clear HO_4; clear BK244; clear HB; have HO_4 := n0_; have BK244 := n1_; have HB := n2_; clear n0_ n1_ n2_; (try clear hb); (try clear hb2); (try clear hk); (try clear hi))))
     (try simp only [Act.put, List.setIfInBounds_toArray, List.set_cons_zero, List.set_cons_succ])
     go_cut [4] (fun v4 wc => ∃ (kq : Nat) (x4_15 : List Int), Aside0 (impl_DocOk.j3 kq l0 (wrap64 (x3_2 + t246)) x4_15 x28_2 l0 (l0.length : Int) x28_2 ((rd_T39 l0 x28_2).f0) ((rd_T39 l0 x28_2).f1) ((rd_T39 l0 x28_2).f2) ((rd_T39 l0 x28_2).f3) = some r) ∧ Aside0 (kq ≤ k2) ∧ Aside0 (Kd.R (Kd.int .i64) 2 wc w.heap.size (fun _ => True) v4 x4_15) ∧ Aside0 (wc.heap[gb244]? = some (.cells #[.int .i64 ((rd_T39 l0 x28_2).f0), .string ((rd_T39 l0 x28_2).f1), .string ((rd_T39 l0 x28_2).f2), (.slice A243_3 ((rd_T39 l0 x28_2).f3).length c243_3)] 39 (0, 0))) ∧ Aside0 (Below w.heap.size w wc))
     case first =>
      have H := HC16.out
      clear HC16
      have H' := Aside0.mk H
      clear H
      go_wp2
      repeat (go_quiet (fail); try go_wp2)
      go_loopg [4] k2 (fun kq v4 w' => ∃ (x4_3 : List Int), Aside0 (impl_DocOk.l1 kq l0 (wrap64 (x3_2 + t246)) x4_3 x28_2 l0 (l0.length : Int) x28_2 ((rd_T39 l0 x28_2).f0) ((rd_T39 l0 x28_2).f1) ((rd_T39 l0 x28_2).f2) ((rd_T39 l0 x28_2).f3) = some r) ∧ Aside0 (kq ≤ k2) ∧ Aside0 (Kd.R (Kd.int .i64) 2 w' w.heap.size (fun _ => True) v4 x4_3) ∧ Aside0 (w'.heap[gb244]? = some (.cells #[.int .i64 ((rd_T39 l0 x28_2).f0), .string ((rd_T39 l0 x28_2).f1), .string ((rd_T39 l0 x28_2).f2), (.slice A243_3 ((rd_T39 l0 x28_2).f3).length c243_3)] 39 (0, 0))) ∧ Aside0 (Below w.heap.size w w'))
      case atStart => exact ⟨(x4_2), H', ⟨Nat.le_refl _⟩, ⟨aP HO_4.out⟩, ⟨aP BK244.out⟩, ⟨aE⟩⟩
      case round =>
       clear H'
       try clear c1
       try clear c2
       try clear p2
       try clear q2
       try clear hx2
       try clear qi2
       try clear c4
       try clear c5
       try clear c5b0
       try clear c5b1
       try clear c6
       try clear c6b0
       try clear c6b1
       try clear p6
       try clear c7
       try clear c10
       try clear c10b0
       try clear c11
       try clear c11b0
       try clear c12
       try clear c12b0
       try clear c13
       try clear c14
       try clear c23
       try clear p23
       try clear q23
       try clear hx23
       try clear qi23
       try clear hcz18_0
       try clear hcz18_1
       try clear hcz18_2
       try clear hcz18_3
       try clear hcz20_0
       try clear hcz20_1
       try clear hcz20_2
       try clear hcz20_3
       try clear hcz22_0
       try clear hcz22_1
       try clear hcz22_2
       try clear hcz22_3
       try clear hfz18_0
       try clear hfz18_1
       try clear hfz18_2
       try clear hfz18_3
       try clear hfz20_0
       try clear hfz20_1
       try clear hfz20_2
       try clear hfz20_3
       try clear hfz22_0
       try clear hfz22_1
       try clear hfz22_2
       try clear hfz22_3
       try clear hx238_0
       try clear hx238_1
       try clear hx238_2
       try clear hx238_3
       try clear hx239_0
       try clear hx239_1
       try clear hx239_2
       try clear hx239_3
       try clear hx243_0
       try clear hx243_1
       try clear hx243_2
       try clear hx243_3
       try clear p2
       try clear p238
       try clear p239
       try clear p243
       try clear q2
       try clear q238
       try clear q239
       try clear q243
       obtain ⟨x4_3, HA, HK3, HO_4, BK244, HB⟩ := hrel
       cases gk with
       | zero => exact absurd HA.out (by simp [impl_DocOk.l1])
       | succ k3 =>
        have H := HA.out
        clear HA
        simp only [impl_DocOk.l1] at H
        by_cases c24 : (x4_3.length : Int) > 0
        rotate_left
        ·rw [if_neg c24] at H
         have c24b0 : decide (0 < (x4_3.length : Int)) = false := decide_eq_false c24
         have c24b1 : decide (0 < x4_3.length) = false := decide_eq_false (by omega)
         clear c24
         (first | rw [c24b0] | (simp only [i64_w, i32_w]; rw [c24b0]) | skip)
         have H' := Aside0.mk H
         clear H
         obtain ⟨Ao35, co35, eo35⟩ := Kd.R_slice HO_4.out
         subst eo35
         go_wp2
         repeat (go_quiet (fail); try go_wp2)
         go_meet
         case rel => exact ⟨_, (x4_3), H', ⟨by have := HJ1.out; have := HK2.out; have := HK3.out; first | omega | exact Nat.le_refl _⟩, ⟨aP HO_4.out⟩, ⟨aP BK244.out⟩, ⟨aE⟩⟩
        rw [if_pos c24] at H
        have c24b0 : decide (0 < (x4_3.length : Int)) = true := decide_eq_true c24
        have c24b1 : decide (0 < x4_3.length) = true := decide_eq_true (by omega)
        clear c24
        (first | rw [c24b0] | (simp only [i64_w, i32_w]; rw [c24b0]) | skip)
        obtain ⟨ji25, hji25⟩ : ∃ j_ : Int, (wrap64 ((x4_3.length : Int) - 1)) = j_ := ⟨_, rfl⟩
        replace H : (if 0 ≤ (ji25) then (if (ji25) < (x4_3.length : Int) then (if (rd x4_3 (ji25)) = ((rd_T39 l0 x28_2).f0) then (impl_DocOk.j3 k3 l0 (wrap64 (x3_2 + t246)) x4_3 x28_2 l0 (l0.length : Int) x28_2 ((rd_T39 l0 x28_2).f0) ((rd_T39 l0 x28_2).f1) ((rd_T39 l0 x28_2).f2) ((rd_T39 l0 x28_2).f3)) else (if (ji25) ≤ (x4_3.length : Int) then (impl_DocOk.l1 k3 l0 (wrap64 (x3_2 + t246)) (x4_3.take ((ji25) : Int).toNat) x28_2 l0 (l0.length : Int) x28_2 ((rd_T39 l0 x28_2).f0) ((rd_T39 l0 x28_2).f1) ((rd_T39 l0 x28_2).f2) ((rd_T39 l0 x28_2).f3)) else (none))) else (none)) else (none)) = some r := by first | (rw [hji25] at H; exact H) | (simp only [hji25] at H ⊢; exact H)
        have hji25w : (IntKind.i64.wrap ((x4_3.length : Int) - 1)) = ji25 := (i64_w _).trans hji25
        by_cases c26 : 0 ≤ (ji25)
        rotate_left
        ·rw [if_neg c26] at H
         exact absurd H (by simp)
        rw [if_pos c26] at H
        have c26b0 : decide (0 ≤ (ji25)) = true := decide_eq_true c26
        clear c26
        by_cases c27 : (ji25) < (x4_3.length : Int)
        rotate_left
        ·rw [if_neg c27] at H
         exact absurd H (by simp)
        rw [if_pos c27] at H
        have c27b0 : decide ((ji25) < (x4_3.length : Int)) = true := decide_eq_true c27
        clear c27
        by_cases c28 : (rd x4_3 (ji25)) = ((rd_T39 l0 x28_2).f0)
        ·rw [if_pos c28] at H
         have c28b0 : ((rd x4_3 (ji25)) == ((rd_T39 l0 x28_2).f0)) = true := beq_iff_eq.mpr c28
         have c28b1 : ((rd x4_3 (ji25)) != ((rd_T39 l0 x28_2).f0)) = false := bne_eq_false_iff_eq.mpr c28
         clear c28
         have H' := Aside0.mk H
         clear H
         obtain ⟨Ao29, co29, eo29⟩ := Kd.R_slice HO_4.out
         subst eo29
         have p247 : 0 ≤ ((ji25) : Int) := aD
         have q247 : (ji25) < (x4_3.length : Int) := aD
         obtain ⟨ad247, e247, hx247_0⟩ := Kd.at_int (Kd.R_reads' HO_4.out).2.2 (ji25) p247 q247
         cases e247
         replace p247 := eq_true p247
         replace q247 := eq_true q247
         have hcz30_0 : wr.cell? ⟨gb244, 0, none⟩ = some (.int .i64 ((rd_T39 l0 x28_2).f0)) := (blk_cell BK244.out 0).trans rfl
         have hcz30_1 : wr.cell? ⟨gb244, 1, none⟩ = some (.string ((rd_T39 l0 x28_2).f1)) := (blk_cell BK244.out 1).trans rfl
         have hcz30_2 : wr.cell? ⟨gb244, 2, none⟩ = some (.string ((rd_T39 l0 x28_2).f2)) := (blk_cell BK244.out 2).trans rfl
         have hcz30_3 : wr.cell? ⟨gb244, 3, none⟩ = some (.slice A243_3 ((rd_T39 l0 x28_2).f3).length c243_3) := (blk_cell BK244.out 3).trans rfl
         have hfz30_0 := blk_frozen BK244.out 0
         have hfz30_1 := blk_frozen BK244.out 1
         have hfz30_2 := blk_frozen BK244.out 2
         have hfz30_3 := blk_frozen BK244.out 3
         go_wp2
         repeat (go_quiet (fail); try go_wp2)
         go_meet
         case rel => exact ⟨_, (x4_3), H', ⟨by have := HJ1.out; have := HK2.out; have := HK3.out; first | omega | exact Nat.le_refl _⟩, ⟨aP HO_4.out⟩, ⟨aP BK244.out⟩, ⟨aE⟩⟩
        rw [if_neg c28] at H
        have c28b0 : ((rd x4_3 (ji25)) == ((rd_T39 l0 x28_2).f0)) = false := beq_eq_false_iff_ne.mpr c28
        have c28b1 : ((rd x4_3 (ji25)) != ((rd_T39 l0 x28_2).f0)) = true := bne_iff_ne.mpr c28
        by_cases c31 : (ji25) ≤ (x4_3.length : Int)
        rotate_left
        ·rw [if_neg c31] at H
         exact absurd H (by simp)
        rw [if_pos c31] at H
        have c31b0 := eq_true c31
        have c31b1 : decide ((ji25) ≤ (x4_3.length : Int)) = true := decide_eq_true c31
        clear c31
        obtain ⟨y248, hy248⟩ : ∃ y_ : List Int, y_ = (x4_3.take ((ji25) : Int).toNat) := ⟨_, rfl⟩
        replace H : (impl_DocOk.l1 k3 l0 (wrap64 (x3_2 + t246)) y248 x28_2 l0 (l0.length : Int) x28_2 ((rd_T39 l0 x28_2).f0) ((rd_T39 l0 x28_2).f1) ((rd_T39 l0 x28_2).f2) ((rd_T39 l0 x28_2).f3)) = some r := by first | (rw [hy248]; with_reducible exact H) | (have H2_ := (Option.bind_some _ _).symm.trans H; rw [hy248]; with_reducible exact H2_) | (have H2_ := (Option.bind_some _ _).symm.trans H; with_reducible exact H2_) | with_reducible exact H | (rw [hy248]; exact H) | exact H
        have Ny248 := Aside0.mk hy248
        clear hy248
        have H' := Aside0.mk H
        clear H
        obtain ⟨Ao32, co32, eo32⟩ := Kd.R_slice HO_4.out
        subst eo32
        have p247 : 0 ≤ ((ji25) : Int) := aD
        have q247 : (ji25) < (x4_3.length : Int) := aD
        obtain ⟨ad247, e247, hx247_0⟩ := Kd.at_int (Kd.R_reads' HO_4.out).2.2 (ji25) p247 q247
        cases e247
        replace p247 := eq_true p247
        replace q247 := eq_true q247
        have hcz33_0 : wr.cell? ⟨gb244, 0, none⟩ = some (.int .i64 ((rd_T39 l0 x28_2).f0)) := (blk_cell BK244.out 0).trans rfl
        have hcz33_1 : wr.cell? ⟨gb244, 1, none⟩ = some (.string ((rd_T39 l0 x28_2).f1)) := (blk_cell BK244.out 1).trans rfl
        have hcz33_2 : wr.cell? ⟨gb244, 2, none⟩ = some (.string ((rd_T39 l0 x28_2).f2)) := (blk_cell BK244.out 2).trans rfl
        have hcz33_3 : wr.cell? ⟨gb244, 3, none⟩ = some (.slice A243_3 ((rd_T39 l0 x28_2).f3).length c243_3) := (blk_cell BK244.out 3).trans rfl
        have hfz33_0 := blk_frozen BK244.out 0
        have hfz33_1 := blk_frozen BK244.out 1
        have hfz33_2 := blk_frozen BK244.out 2
        have hfz33_3 := blk_frozen BK244.out 3
        have q34 : ((ji25) : Int) ≤ ((x4_3.length : Int) : Int) := aD
        obtain ⟨i034, hi034, _, hsz34, _⟩ := info_parts info2
        have hcut34 := cut_to (P := Tryz.prog) 59 2 .i64 Tryz.underlying59 hi034 (some ad247) x4_3.length co32 (ji25) (aD) q34 (Kd.R_reads' HO_4.out).2.1
        have hr34 := Kd.R_take (m := ((ji25) : Int).toNat) HO_4.out (by omega)
        have hy34 : y248.length = ((ji25) : Int).toNat := (by rw [Ny248.out, List.length_take]; omega)
        rw [← Ny248.out] at hr34
        rw [← hy34] at hr34 hcut34
        clear hy34 hi034 hsz34 HO_4
        have HO250 := Aside0.mk hr34
        clear hr34
        replace q34 := eq_true q34
        go_wp2
        repeat (go_quiet (fail); try go_wp2)
        go_roundg k3
        case measure => have := HJ1.out; have := HK2.out; have := HK3.out; omega
        case rel => exact ⟨(y248), H', ⟨by have := HJ1.out; have := HK2.out; have := HK3.out; omega⟩, ⟨aP HO250.out⟩, ⟨aP BK244.out⟩, ⟨aE⟩⟩
     case rest =>
      clear HC16
      try clear c1
      try clear c2
      try clear p2
      try clear q2
      try clear hx2
      try clear qi2
      try clear c3
      try clear q3
      try clear c4
      try clear c5
      try clear c5b0
      try clear c5b1
      try clear c6
      try clear c6b0
      try clear c6b1
      try clear p6
      try clear c7
      try clear c10
      try clear c10b0
      try clear c11
      try clear c11b0
      try clear c12
      try clear c12b0
      try clear c13
      try clear c14
      try clear c23
      try clear p23
      try clear q23
      try clear hx23
      try clear qi23
      try clear c24
      try clear c24b0
      try clear c24b1
      try clear p24
      try clear q24
      try clear hx24
      try clear c26
      try clear c26b0
      try clear c27
      try clear c27b0
      try clear c28
      try clear c28b0
      try clear c28b1
      try clear c31
      try clear c31b0
      try clear c31b1
      try clear q34
      try clear hcz18_0
      try clear hcz18_1
      try clear hcz18_2
      try clear hcz18_3
      try clear hcz20_0
      try clear hcz20_1
      try clear hcz20_2
      try clear hcz20_3
      try clear hcz22_0
      try clear hcz22_1
      try clear hcz22_2
      try clear hcz22_3
      try clear hcz30_0
      try clear hcz30_1
      try clear hcz30_2
      try clear hcz30_3
      try clear hcz33_0
      try clear hcz33_1
      try clear hcz33_2
      try clear hcz33_3
      try clear hfz18_0
      try clear hfz18_1
      try clear hfz18_2
      try clear hfz18_3
      try clear hfz20_0
      try clear hfz20_1
      try clear hfz20_2
      try clear hfz20_3
      try clear hfz22_0
      try clear hfz22_1
      try clear hfz22_2
      try clear hfz22_3
      try clear hfz30_0
      try clear hfz30_1
      try clear hfz30_2
      try clear hfz30_3
      try clear hfz33_0
      try clear hfz33_1
      try clear hfz33_2
      try clear hfz33_3
      try clear hx238_0
      try clear hx238_1
      try clear hx238_2
      try clear hx238_3
      try clear hx239_0
      try clear hx239_1
      try clear hx239_2
      try clear hx239_3
      try clear hx243_0
      try clear hx243_1
      try clear hx243_2
      try clear hx243_3
      try clear hx247_0
      try clear p2
      try clear p23
      try clear p238
      try clear p239
      try clear p243
      try clear p247
      try clear p6
      try clear q2
      try clear q23
      try clear q238
      try clear q239
      try clear q243
      try clear q247
      try clear q34
      obtain ⟨kq, x4_15, HA, HJ15, HO_4, BK244, HB⟩ := hcut
      cases kq with
      | zero => exact absurd HA.out (by simp [impl_DocOk.j3])
      | succ kj15 =>
       have H := HA.out
       clear HA
       simp only [impl_DocOk.j3] at H
       have HC36 := Aside0.mk H
       clear H
       go_upto_region 12 with (fail)
       repeat (go_quiet (fail); go_upto_region 12 with (fail))
       go_cut [70] (fun v70 wc => ∃ (kq : Nat) (x70_35 : Bool), v70 = .bool x70_35 ∧ Aside0 (impl_DocOk.j4 kq l0 (wrap64 (x3_2 + t246)) x4_15 x28_2 l0 (l0.length : Int) x28_2 x70_35 ((rd_T39 l0 x28_2).f0) ((rd_T39 l0 x28_2).f1) ((rd_T39 l0 x28_2).f2) ((rd_T39 l0 x28_2).f3) = some r) ∧ Aside0 (kq ≤ kj15) ∧ Aside0 (Kd.R (Kd.int .i64) 2 wc w.heap.size (fun _ => True) u4 x4_15) ∧ Aside0 (wc.heap[gb244]? = some (.cells #[.int .i64 ((rd_T39 l0 x28_2).f0), .string ((rd_T39 l0 x28_2).f1), .string ((rd_T39 l0 x28_2).f2), (.slice A243_3 ((rd_T39 l0 x28_2).f3).length c243_3)] 39 (0, 0))) ∧ Aside0 (Below w.heap.size w wc))
       case first =>
        have H := HC36.out
        clear HC36
        by_cases c37 : x28_2 > 0
        rotate_left
        ·rw [if_neg c37] at H
         have c37b0 : decide (0 < x28_2) = false := decide_eq_false c37
         clear c37
         (first | rw [c37b0] | (simp only [i64_w, i32_w]; rw [c37b0]) | skip)
         have H' := Aside0.mk H
         clear H
         obtain ⟨Ao41, co41, eo41⟩ := Kd.R_slice HO_4.out
         subst eo41
         go_wp2
         repeat (go_quiet (fail); try go_wp2)
         go_meet
         case rel => exact ⟨_, (decide ((x4_15.length : Int) ≥ 20)), aR, H', ⟨by have := HJ1.out; have := HK2.out; have := HJ15.out; first | omega | exact Nat.le_refl _⟩, ⟨aP HO_4.out⟩, ⟨aP BK244.out⟩, ⟨aE⟩⟩
        rw [if_pos c37] at H
        have c37b0 : decide (0 < x28_2) = true := decide_eq_true c37
        clear c37
        (first | rw [c37b0] | (simp only [i64_w, i32_w]; rw [c37b0]) | skip)
        by_cases c38 : (x4_15.length : Int) = 0
        ·rw [if_pos c38] at H
         have c38b0 : ((x4_15.length : Int) == 0) = true := beq_iff_eq.mpr c38
         have c38b1 : ((x4_15.length : Int) != 0) = false := bne_eq_false_iff_eq.mpr c38
         clear c38
         have H' := Aside0.mk H
         clear H
         obtain ⟨Ao39, co39, eo39⟩ := Kd.R_slice HO_4.out
         subst eo39
         go_wp2
         repeat (go_quiet (fail); try go_wp2)
         go_meet
         case rel => exact ⟨_, (true), aR, H', ⟨by have := HJ1.out; have := HK2.out; have := HJ15.out; first | omega | exact Nat.le_refl _⟩, ⟨aP HO_4.out⟩, ⟨aP BK244.out⟩, ⟨aE⟩⟩
        rw [if_neg c38] at H
        have c38b0 : ((x4_15.length : Int) == 0) = false := beq_eq_false_iff_ne.mpr c38
        have c38b1 : ((x4_15.length : Int) != 0) = true := bne_iff_ne.mpr c38
        have c38b2 : ¬ (x4_15 = []) := fun h_ => c38 (by rw [h_]; rfl)
        have H' := Aside0.mk H
        clear H
        obtain ⟨Ao40, co40, eo40⟩ := Kd.R_slice HO_4.out
        subst eo40
        go_wp2
        repeat (go_quiet (fail); try go_wp2)
        go_meet
        case rel => exact ⟨_, (decide ((x4_15.length : Int) ≥ 20)), aR, H', ⟨by have := HJ1.out; have := HK2.out; have := HJ15.out; first | omega | exact Nat.le_refl _⟩, ⟨aP HO_4.out⟩, ⟨aP BK244.out⟩, ⟨aE⟩⟩
       case rest =>
        clear HC36
        try clear c1
        try clear c2
        try clear p2
        try clear q2
        try clear hx2
        try clear qi2
        try clear c3
        try clear q3
        try clear c4
        try clear c5
        try clear c5b0
        try clear c5b1
        try clear c6
        try clear c6b0
        try clear c6b1
        try clear p6
        try clear c7
        try clear c10
        try clear c10b0
        try clear c11
        try clear c11b0
        try clear c12
        try clear c12b0
        try clear c13
        try clear c14
        try clear c23
        try clear p23
        try clear q23
        try clear hx23
        try clear qi23
        try clear c24
        try clear c24b0
        try clear c24b1
        try clear p24
        try clear q24
        try clear hx24
        try clear c26
        try clear c26b0
        try clear c27
        try clear c27b0
        try clear c28
        try clear c28b0
        try clear c28b1
        try clear c31
        try clear c31b0
        try clear c31b1
        try clear q34
        try clear c37
        try clear c37b0
        try clear c38
        try clear c38b0
        try clear c38b1
        try clear c38b2
        try clear hcz18_0
        try clear hcz18_1
        try clear hcz18_2
        try clear hcz18_3
        try clear hcz20_0
        try clear hcz20_1
        try clear hcz20_2
        try clear hcz20_3
        try clear hcz22_0
        try clear hcz22_1
        try clear hcz22_2
        try clear hcz22_3
        try clear hcz30_0
        try clear hcz30_1
        try clear hcz30_2
        try clear hcz30_3
        try clear hcz33_0
        try clear hcz33_1
        try clear hcz33_2
        try clear hcz33_3
        try clear hfz18_0
        try clear hfz18_1
        try clear hfz18_2
        try clear hfz18_3
        try clear hfz20_0
        try clear hfz20_1
        try clear hfz20_2
        try clear hfz20_3
        try clear hfz22_0
        try clear hfz22_1
        try clear hfz22_2
        try clear hfz22_3
        try clear hfz30_0
        try clear hfz30_1
        try clear hfz30_2
        try clear hfz30_3
        try clear hfz33_0
        try clear hfz33_1
        try clear hfz33_2
        try clear hfz33_3
        try clear hx238_0
        try clear hx238_1
        try clear hx238_2
        try clear hx238_3
        try clear hx239_0
        try clear hx239_1
        try clear hx239_2
        try clear hx239_3
        try clear hx243_0
        try clear hx243_1
        try clear hx243_2
        try clear hx243_3
        try clear hx247_0
        try clear p2
        try clear p23
        try clear p238
        try clear p239
        try clear p24
        try clear p243
        try clear p247
        try clear p6
        try clear q2
        try clear q23
        try clear q238
        try clear q239
        try clear q24
        try clear q243
        try clear q247
        try clear q3
        try clear q34
        obtain ⟨kq, x70_35, rfl, HA, HJ35, HO_4, BK244, HB⟩ := hcut
        cases kq with
        | zero => exact absurd HA.out (by simp [impl_DocOk.j4])
        | succ kj35 =>
         have H := HA.out
         clear HA
         simp only [impl_DocOk.j4] at H
         by_cases c42 : x70_35 = true
         ·subst c42
          have H1 : (some false) = some r := by rw [if_pos rfl] at H; exact H
          clear H
          have H := H1
          clear H1
          obtain rfl := Option.some.inj H
          go_wp2
          repeat (go_quiet (fail); try go_wp2)
          go_ret
          exact ⟨by first | rfl | (simp only [aX1, aX2]; rfl) | (simp [*] <;> rfl), aE⟩
         replace c42 := Bool.eq_false_iff.mpr c42
         subst c42
         have H1 : (if ((rd_T39 l0 x28_2).f1).toList = ([] : List UInt8) then (if x28_2 > 0 then (if 0 ≤ (wrap64 (x28_2 - 1)) then (if (wrap64 (x28_2 - 1)) < (l0.length : Int) then (if ((rd_T39 l0 (wrap64 (x28_2 - 1))).f1).toList = ([] : List UInt8) then (if ((rd_T39 l0 (wrap64 (x28_2 - 1))).f0) = ((rd_T39 l0 x28_2).f0) then (some false) else (impl_DocOk.l0 kj35 l0 (wrap64 (x3_2 + t246)) x4_15 l0 (l0.length : Int) (wrap64 (x28_2 + 1)))) else (impl_DocOk.l0 kj35 l0 (wrap64 (x3_2 + t246)) x4_15 l0 (l0.length : Int) (wrap64 (x28_2 + 1)))) else (none)) else (none)) else (impl_DocOk.l0 kj35 l0 (wrap64 (x3_2 + t246)) x4_15 l0 (l0.length : Int) (wrap64 (x28_2 + 1)))) else (if x4_15.length < 17592186044416 then (impl_DocOk.l0 kj35 l0 (wrap64 (x3_2 + t246)) (x4_15 ++ [x28_2]) l0 (l0.length : Int) (wrap64 (x28_2 + 1))) else (none))) = some r := by rw [if_neg (show ¬ (false = true) by decide)] at H; exact H
         clear H
         have H := H1
         clear H1
         by_cases c43 : ((rd_T39 l0 x28_2).f1).toList = ([] : List UInt8)
         rotate_left
         ·rw [if_neg c43] at H
          have c43b0 : (((rd_T39 l0 x28_2).f1).toList == ([] : List UInt8)) = false := beq_eq_false_iff_ne.mpr c43
          have c43b1 : (((rd_T39 l0 x28_2).f1).toList != ([] : List UInt8)) = true := bne_iff_ne.mpr c43
          have c43b2 : (((rd_T39 l0 x28_2).f1)).toList.isEmpty = false := by (first | exact (List.isEmpty_iff.mpr (eq_of_beq c43b0)) | exact (Bool.eq_false_iff.mpr (fun h_ => by rw [List.isEmpty_iff.mp h_] at c43b0; cases c43b0)))
          by_cases c54 : x4_15.length < 17592186044416
          rotate_left
          ·rw [if_neg c54] at H
           exact absurd H (by simp)
          rw [if_pos c54] at H
          have LMc54 := Aside0.mk c54
          clear c54
          obtain ⟨y253, hy253⟩ : ∃ y_ : List Int, y_ = (x4_15 ++ [x28_2]) := ⟨_, rfl⟩
          replace H : (impl_DocOk.l0 kj35 l0 (wrap64 (x3_2 + t246)) y253 l0 (l0.length : Int) (wrap64 (x28_2 + 1))) = some r := by first | (rw [hy253]; with_reducible exact H) | (have H2_ := (Option.bind_some _ _).symm.trans H; rw [hy253]; with_reducible exact H2_) | (have H2_ := (Option.bind_some _ _).symm.trans H; with_reducible exact H2_) | with_reducible exact H | (rw [hy253]; exact H) | exact H
          have Ny253 := Aside0.mk hy253
          clear hy253
          have H' := Aside0.mk H
          clear H
          have hcz55_0 : wc.cell? ⟨gb244, 0, none⟩ = some (.int .i64 ((rd_T39 l0 x28_2).f0)) := (blk_cell BK244.out 0).trans rfl
          have hcz55_1 : wc.cell? ⟨gb244, 1, none⟩ = some (.string ((rd_T39 l0 x28_2).f1)) := (blk_cell BK244.out 1).trans rfl
          have hcz55_2 : wc.cell? ⟨gb244, 2, none⟩ = some (.string ((rd_T39 l0 x28_2).f2)) := (blk_cell BK244.out 2).trans rfl
          have hcz55_3 : wc.cell? ⟨gb244, 3, none⟩ = some (.slice A243_3 ((rd_T39 l0 x28_2).f3).length c243_3) := (blk_cell BK244.out 3).trans rfl
          have hfz55_0 := blk_frozen BK244.out 0
          have hfz55_1 := blk_frozen BK244.out 1
          have hfz55_2 := blk_frozen BK244.out 2
          have hfz55_3 := blk_frozen BK244.out 3
          go_wp2_with (first | ((with_reducible refine gate_builtin (b := .append) (xs := #[.tmp 74, .tmp 76]) rfl ?_); (try (refine gate_guard (by rfl) ?_; dsimp only)); at_builtin; refine Kd.R_append (Kd.int .i64) (w0 := w) w.heap.size rfl (.tmp 74) (.tmp 76) 59 2 (.int .i64 0) 8 rfl Tryz.underlying59 info2 rfl (by decide) (by omega) u4 x4_15 x28_2 [.int .i64 x28_2] (fun _ => True) (fun _ => False) rfl rfl ?aP (fun _ hk => hk.elim) ?aF ?aO ?aB ?aS ?aL ?_; (case aP => exact rfl); (case aB => exact aE); (case aF => exact (fun _ _ => trivial)); (case aO => exact (aP HO_4.out)); (case aS => exact (below_size aE)); (case aL => have := LMc54.out; omega); intro v254 w56 ho hb hg hat; rw [← Ny253.out] at ho; have n0_ := Aside0.mk (blk_grown (g := gb244) (o := .cells #[.int .i64 ((rd_T39 l0 x28_2).f0), .string ((rd_T39 l0 x28_2).f1), .string ((rd_T39 l0 x28_2).f2), .slice A243_3 ((rd_T39 l0 x28_2).f3).length c243_3] 39 (0, 0)) (aP BK244.out) hg (Kd.R_ne HO_4.out BK244.out (by decide))); have n1_ := Aside0.mk (hb); have n2_ := Aside0.mk (ho); clear BK244; clear HB; clear HO_4; have BK244 := n0_; have HB := n1_; have HO255 := n2_; clear n0_ n1_ n2_; clear ho hb hg hat))
          repeat (go_quiet (first | ((with_reducible refine gate_builtin (b := .append) (xs := #[.tmp 74, .tmp 76]) rfl ?_); (try (refine gate_guard (by rfl) ?_; dsimp only)); at_builtin; refine Kd.R_append (Kd.int .i64) (w0 := w) w.heap.size rfl (.tmp 74) (.tmp 76) 59 2 (.int .i64 0) 8 rfl Tryz.underlying59 info2 rfl (by decide) (by omega) u4 x4_15 x28_2 [.int .i64 x28_2] (fun _ => True) (fun _ => False) rfl rfl ?aP (fun _ hk => hk.elim) ?aF ?aO ?aB ?aS ?aL ?_; (case aP => exact rfl); (case aB => exact aE); (case aF => exact (fun _ _ => trivial)); (case aO => exact (aP HO_4.out)); (case aS => exact (below_size aE)); (case aL => have := LMc54.out; omega); intro v254 w56 ho hb hg hat; rw [← Ny253.out] at ho; have n0_ := Aside0.mk (blk_grown (g := gb244) (o := .cells #[.int .i64 ((rd_T39 l0 x28_2).f0), .string ((rd_T39 l0 x28_2).f1), .string ((rd_T39 l0 x28_2).f2), .slice A243_3 ((rd_T39 l0 x28_2).f3).length c243_3] 39 (0, 0)) (aP BK244.out) hg (Kd.R_ne HO_4.out BK244.out (by decide))); have n1_ := Aside0.mk (hb); have n2_ := Aside0.mk (ho); clear BK244; clear HB; clear HO_4; have BK244 := n0_; have HB := n1_; have HO255 := n2_; clear n0_ n1_ n2_; clear ho hb hg hat)); try go_wp2_with (first | ((with_reducible refine gate_builtin (b := .append) (xs := #[.tmp 74, .tmp 76]) rfl ?_); (try (refine gate_guard (by rfl) ?_; dsimp only)); at_builtin; refine Kd.R_append (Kd.int .i64) (w0 := w) w.heap.size rfl (.tmp 74) (.tmp 76) 59 2 (.int .i64 0) 8 rfl Tryz.underlying59 info2 rfl (by decide) (by omega) u4 x4_15 x28_2 [.int .i64 x28_2] (fun _ => True) (fun _ => False) rfl rfl ?aP (fun _ hk => hk.elim) ?aF ?aO ?aB ?aS ?aL ?_; (case aP => exact rfl); (case aB => exact aE); (case aF => exact (fun _ _ => trivial)); (case aO => exact (aP HO_4.out)); (case aS => exact (below_size aE)); (case aL => have := LMc54.out; omega); intro v254 w56 ho hb hg hat; rw [← Ny253.out] at ho; have n0_ := Aside0.mk (blk_grown (g := gb244) (o := .cells #[.int .i64 ((rd_T39 l0 x28_2).f0), .string ((rd_T39 l0 x28_2).f1), .string ((rd_T39 l0 x28_2).f2), .slice A243_3 ((rd_T39 l0 x28_2).f3).length c243_3] 39 (0, 0)) (aP BK244.out) hg (Kd.R_ne HO_4.out BK244.out (by decide))); have n1_ := Aside0.mk (hb); have n2_ := Aside0.mk (ho); clear BK244; clear HB; clear HO_4; have BK244 := n0_; have HB := n1_; have HO255 := n2_; clear n0_ n1_ n2_; clear ho hb hg hat)))
          go_roundg kj35
          case measure => have := HJ1.out; have := HK2.out; have := HJ15.out; have := HJ35.out; omega
          case rel => exact ⟨((wrap64 (x3_2 + t246))), (y253), (wrap64 (x28_2 + 1)), aR, aR, H', ⟨by have := HJ1.out; have := HK2.out; have := HJ15.out; have := HJ35.out; omega⟩, ⟨aP HO255.out⟩, ⟨aE⟩⟩
         rw [if_pos c43] at H
         have c43b0 : (((rd_T39 l0 x28_2).f1).toList == ([] : List UInt8)) = true := beq_iff_eq.mpr c43
         have c43b1 : (((rd_T39 l0 x28_2).f1).toList != ([] : List UInt8)) = false := bne_eq_false_iff_eq.mpr c43
         have c43b2 : (((rd_T39 l0 x28_2).f1)).toList.isEmpty = true := by (first | exact (List.isEmpty_iff.mpr (eq_of_beq c43b0)) | exact (Bool.eq_false_iff.mpr (fun h_ => by rw [List.isEmpty_iff.mp h_] at c43b0; cases c43b0)))
         clear c43
         by_cases c44 : x28_2 > 0
         rotate_left
         ·rw [if_neg c44] at H
          have c44b0 : decide (0 < x28_2) = false := decide_eq_false c44
          clear c44
          have H' := Aside0.mk H
          clear H
          have hcz53_0 : wc.cell? ⟨gb244, 0, none⟩ = some (.int .i64 ((rd_T39 l0 x28_2).f0)) := (blk_cell BK244.out 0).trans rfl
          have hcz53_1 : wc.cell? ⟨gb244, 1, none⟩ = some (.string ((rd_T39 l0 x28_2).f1)) := (blk_cell BK244.out 1).trans rfl
          have hcz53_2 : wc.cell? ⟨gb244, 2, none⟩ = some (.string ((rd_T39 l0 x28_2).f2)) := (blk_cell BK244.out 2).trans rfl
          have hcz53_3 : wc.cell? ⟨gb244, 3, none⟩ = some (.slice A243_3 ((rd_T39 l0 x28_2).f3).length c243_3) := (blk_cell BK244.out 3).trans rfl
          have hfz53_0 := blk_frozen BK244.out 0
          have hfz53_1 := blk_frozen BK244.out 1
          have hfz53_2 := blk_frozen BK244.out 2
          have hfz53_3 := blk_frozen BK244.out 3
          go_wp2
          repeat (go_quiet (fail); try go_wp2)
          go_roundg kj35
          case measure => have := HJ1.out; have := HK2.out; have := HJ15.out; have := HJ35.out; omega
          case rel => exact ⟨((wrap64 (x3_2 + t246))), (x4_15), (wrap64 (x28_2 + 1)), aR, aR, H', ⟨by have := HJ1.out; have := HK2.out; have := HJ15.out; have := HJ35.out; omega⟩, ⟨aP HO_4.out⟩, ⟨aE⟩⟩
         rw [if_pos c44] at H
         have c44b0 : decide (0 < x28_2) = true := decide_eq_true c44
         clear c44
         obtain ⟨ji45, hji45⟩ : ∃ j_ : Int, (wrap64 (x28_2 - 1)) = j_ := ⟨_, rfl⟩
         replace H : (if 0 ≤ (ji45) then (if (ji45) < (l0.length : Int) then (if ((rd_T39 l0 (ji45)).f1).toList = ([] : List UInt8) then (if ((rd_T39 l0 (ji45)).f0) = ((rd_T39 l0 x28_2).f0) then (some false) else (impl_DocOk.l0 kj35 l0 (wrap64 (x3_2 + t246)) x4_15 l0 (l0.length : Int) (wrap64 (x28_2 + 1)))) else (impl_DocOk.l0 kj35 l0 (wrap64 (x3_2 + t246)) x4_15 l0 (l0.length : Int) (wrap64 (x28_2 + 1)))) else (none)) else (none)) = some r := by first | (rw [hji45] at H; exact H) | (simp only [hji45] at H ⊢; exact H)
         have hji45w : (IntKind.i64.wrap (x28_2 - 1)) = ji45 := (i64_w _).trans hji45
         by_cases c46 : 0 ≤ (ji45)
         rotate_left
         ·rw [if_neg c46] at H
          exact absurd H (by simp)
         rw [if_pos c46] at H
         have c46b0 : decide (0 ≤ (ji45)) = true := decide_eq_true c46
         clear c46
         by_cases c47 : (ji45) < (l0.length : Int)
         rotate_left
         ·rw [if_neg c47] at H
          exact absurd H (by simp)
         rw [if_pos c47] at H
         have c47b0 : decide ((ji45) < (l0.length : Int)) = true := decide_eq_true c47
         clear c47
         by_cases c48 : ((rd_T39 l0 (ji45)).f1).toList = ([] : List UInt8)
         rotate_left
         ·rw [if_neg c48] at H
          have c48b0 : (((rd_T39 l0 (ji45)).f1).toList == ([] : List UInt8)) = false := beq_eq_false_iff_ne.mpr c48
          have c48b1 : (((rd_T39 l0 (ji45)).f1).toList != ([] : List UInt8)) = true := bne_iff_ne.mpr c48
          have c48b2 : (((rd_T39 l0 (ji45)).f1)).toList.isEmpty = false := by (first | exact (List.isEmpty_iff.mpr (eq_of_beq c48b0)) | exact (Bool.eq_false_iff.mpr (fun h_ => by rw [List.isEmpty_iff.mp h_] at c48b0; cases c48b0)))
          have H' := Aside0.mk H
          clear H
          have hcz52_0 : wc.cell? ⟨gb244, 0, none⟩ = some (.int .i64 ((rd_T39 l0 x28_2).f0)) := (blk_cell BK244.out 0).trans rfl
          have hcz52_1 : wc.cell? ⟨gb244, 1, none⟩ = some (.string ((rd_T39 l0 x28_2).f1)) := (blk_cell BK244.out 1).trans rfl
          have hcz52_2 : wc.cell? ⟨gb244, 2, none⟩ = some (.string ((rd_T39 l0 x28_2).f2)) := (blk_cell BK244.out 2).trans rfl
          have hcz52_3 : wc.cell? ⟨gb244, 3, none⟩ = some (.slice A243_3 ((rd_T39 l0 x28_2).f3).length c243_3) := (blk_cell BK244.out 3).trans rfl
          have hfz52_0 := blk_frozen BK244.out 0
          have hfz52_1 := blk_frozen BK244.out 1
          have hfz52_2 := blk_frozen BK244.out 2
          have hfz52_3 := blk_frozen BK244.out 3
          have p251 : 0 ≤ ((ji45) : Int) := aD
          have q251 : (ji45) < (l0.length : Int) := aD
          obtain ⟨ad251, A251_3, c251_3, e251, hx251_0, hx251_1, hx251_2, hx251_3, hl251_3, hi251_3⟩ := at_T39 HR0.out (ji45) p251 q251
          obtain rfl : ad243 = ad251 := (by injection e251)
          replace hx251_0 := (HB.out.cell (World.block_lt_of_cell? w _ hx251_0)).trans hx251_0
          replace hx251_1 := (HB.out.cell (World.block_lt_of_cell? w _ hx251_1)).trans hx251_1
          replace hx251_2 := (HB.out.cell (World.block_lt_of_cell? w _ hx251_2)).trans hx251_2
          replace hx251_3 := (HB.out.cell (World.block_lt_of_cell? w _ hx251_3)).trans hx251_3
          have HR251_3 := Aside0.mk hi251_3
          have HC251_3 := Aside0.mk hl251_3
          clear hi251_3 hl251_3
          replace p251 := eq_true p251
          replace q251 := eq_true q251
          go_wp2
          repeat (go_quiet (fail); try go_wp2)
          go_roundg kj35
          case measure => have := HJ1.out; have := HK2.out; have := HJ15.out; have := HJ35.out; omega
          case rel => exact ⟨((wrap64 (x3_2 + t246))), (x4_15), (wrap64 (x28_2 + 1)), aR, aR, H', ⟨by have := HJ1.out; have := HK2.out; have := HJ15.out; have := HJ35.out; omega⟩, ⟨aP HO_4.out⟩, ⟨aE⟩⟩
         rw [if_pos c48] at H
         have c48b0 : (((rd_T39 l0 (ji45)).f1).toList == ([] : List UInt8)) = true := beq_iff_eq.mpr c48
         have c48b1 : (((rd_T39 l0 (ji45)).f1).toList != ([] : List UInt8)) = false := bne_eq_false_iff_eq.mpr c48
         have c48b2 : (((rd_T39 l0 (ji45)).f1)).toList.isEmpty = true := by (first | exact (List.isEmpty_iff.mpr (eq_of_beq c48b0)) | exact (Bool.eq_false_iff.mpr (fun h_ => by rw [List.isEmpty_iff.mp h_] at c48b0; cases c48b0)))
         clear c48
         by_cases c49 : ((rd_T39 l0 (ji45)).f0) = ((rd_T39 l0 x28_2).f0)
         ·rw [if_pos c49] at H
          have c49b0 : (((rd_T39 l0 (ji45)).f0) == ((rd_T39 l0 x28_2).f0)) = true := beq_iff_eq.mpr c49
          have c49b1 : (((rd_T39 l0 (ji45)).f0) != ((rd_T39 l0 x28_2).f0)) = false := bne_eq_false_iff_eq.mpr c49
          clear c49
          obtain rfl := Option.some.inj H
          have hcz50_0 : wc.cell? ⟨gb244, 0, none⟩ = some (.int .i64 ((rd_T39 l0 x28_2).f0)) := (blk_cell BK244.out 0).trans rfl
          have hcz50_1 : wc.cell? ⟨gb244, 1, none⟩ = some (.string ((rd_T39 l0 x28_2).f1)) := (blk_cell BK244.out 1).trans rfl
          have hcz50_2 : wc.cell? ⟨gb244, 2, none⟩ = some (.string ((rd_T39 l0 x28_2).f2)) := (blk_cell BK244.out 2).trans rfl
          have hcz50_3 : wc.cell? ⟨gb244, 3, none⟩ = some (.slice A243_3 ((rd_T39 l0 x28_2).f3).length c243_3) := (blk_cell BK244.out 3).trans rfl
          have hfz50_0 := blk_frozen BK244.out 0
          have hfz50_1 := blk_frozen BK244.out 1
          have hfz50_2 := blk_frozen BK244.out 2
          have hfz50_3 := blk_frozen BK244.out 3
          have p251 : 0 ≤ ((ji45) : Int) := aD
          have q251 : (ji45) < (l0.length : Int) := aD
          obtain ⟨ad251, A251_3, c251_3, e251, hx251_0, hx251_1, hx251_2, hx251_3, hl251_3, hi251_3⟩ := at_T39 HR0.out (ji45) p251 q251
          obtain rfl : ad243 = ad251 := (by injection e251)
          replace hx251_0 := (HB.out.cell (World.block_lt_of_cell? w _ hx251_0)).trans hx251_0
          replace hx251_1 := (HB.out.cell (World.block_lt_of_cell? w _ hx251_1)).trans hx251_1
          replace hx251_2 := (HB.out.cell (World.block_lt_of_cell? w _ hx251_2)).trans hx251_2
          replace hx251_3 := (HB.out.cell (World.block_lt_of_cell? w _ hx251_3)).trans hx251_3
          have HR251_3 := Aside0.mk hi251_3
          have HC251_3 := Aside0.mk hl251_3
          clear hi251_3 hl251_3
          replace p251 := eq_true p251
          replace q251 := eq_true q251
          have p252 : 0 ≤ ((ji45) : Int) := aD
          have q252 : (ji45) < (l0.length : Int) := aD
          obtain ⟨ad252, A252_3, c252_3, e252, hx252_0, hx252_1, hx252_2, hx252_3, hl252_3, hi252_3⟩ := at_T39 HR0.out (ji45) p252 q252
          obtain rfl : ad243 = ad252 := (by injection e252)
          replace hx252_0 := (HB.out.cell (World.block_lt_of_cell? w _ hx252_0)).trans hx252_0
          replace hx252_1 := (HB.out.cell (World.block_lt_of_cell? w _ hx252_1)).trans hx252_1
          replace hx252_2 := (HB.out.cell (World.block_lt_of_cell? w _ hx252_2)).trans hx252_2
          replace hx252_3 := (HB.out.cell (World.block_lt_of_cell? w _ hx252_3)).trans hx252_3
          have HR252_3 := Aside0.mk hi252_3
          have HC252_3 := Aside0.mk hl252_3
          clear hi252_3 hl252_3
          replace p252 := eq_true p252
          replace q252 := eq_true q252
          have ea_ := Option.some.inj (hx251_3.symm.trans hx252_3)
          injection ea_ with ea_ en_ ec_
          subst ea_
          subst ec_
          clear en_
          go_wp2
          repeat (go_quiet (fail); try go_wp2)
          go_ret
          exact ⟨by first | rfl | (simp only [aX1, aX2]; rfl) | (simp [errW_none, errW_some] <;> rfl) | (simp only [← hji45]; first | rfl | (simp [errW_none, errW_some] <;> rfl)) | (simp [*, errW_none, errW_some] <;> rfl), aE⟩
         rw [if_neg c49] at H
         have c49b0 : (((rd_T39 l0 (ji45)).f0) == ((rd_T39 l0 x28_2).f0)) = false := beq_eq_false_iff_ne.mpr c49
         have c49b1 : (((rd_T39 l0 (ji45)).f0) != ((rd_T39 l0 x28_2).f0)) = true := bne_iff_ne.mpr c49
         have H' := Aside0.mk H
         clear H
         have hcz51_0 : wc.cell? ⟨gb244, 0, none⟩ = some (.int .i64 ((rd_T39 l0 x28_2).f0)) := (blk_cell BK244.out 0).trans rfl
         have hcz51_1 : wc.cell? ⟨gb244, 1, none⟩ = some (.string ((rd_T39 l0 x28_2).f1)) := (blk_cell BK244.out 1).trans rfl
         have hcz51_2 : wc.cell? ⟨gb244, 2, none⟩ = some (.string ((rd_T39 l0 x28_2).f2)) := (blk_cell BK244.out 2).trans rfl
         have hcz51_3 : wc.cell? ⟨gb244, 3, none⟩ = some (.slice A243_3 ((rd_T39 l0 x28_2).f3).length c243_3) := (blk_cell BK244.out 3).trans rfl
         have hfz51_0 := blk_frozen BK244.out 0
         have hfz51_1 := blk_frozen BK244.out 1
         have hfz51_2 := blk_frozen BK244.out 2
         have hfz51_3 := blk_frozen BK244.out 3
         have p251 : 0 ≤ ((ji45) : Int) := aD
         have q251 : (ji45) < (l0.length : Int) := aD
         obtain ⟨ad251, A251_3, c251_3, e251, hx251_0, hx251_1, hx251_2, hx251_3, hl251_3, hi251_3⟩ := at_T39 HR0.out (ji45) p251 q251
         obtain rfl : ad243 = ad251 := (by injection e251)
         replace hx251_0 := (HB.out.cell (World.block_lt_of_cell? w _ hx251_0)).trans hx251_0
         replace hx251_1 := (HB.out.cell (World.block_lt_of_cell? w _ hx251_1)).trans hx251_1
         replace hx251_2 := (HB.out.cell (World.block_lt_of_cell? w _ hx251_2)).trans hx251_2
         replace hx251_3 := (HB.out.cell (World.block_lt_of_cell? w _ hx251_3)).trans hx251_3
         have HR251_3 := Aside0.mk hi251_3
         have HC251_3 := Aside0.mk hl251_3
         clear hi251_3 hl251_3
         replace p251 := eq_true p251
         replace q251 := eq_true q251
         have p252 : 0 ≤ ((ji45) : Int) := aD
         have q252 : (ji45) < (l0.length : Int) := aD
         obtain ⟨ad252, A252_3, c252_3, e252, hx252_0, hx252_1, hx252_2, hx252_3, hl252_3, hi252_3⟩ := at_T39 HR0.out (ji45) p252 q252
         obtain rfl : ad243 = ad252 := (by injection e252)
         replace hx252_0 := (HB.out.cell (World.block_lt_of_cell? w _ hx252_0)).trans hx252_0
         replace hx252_1 := (HB.out.cell (World.block_lt_of_cell? w _ hx252_1)).trans hx252_1
         replace hx252_2 := (HB.out.cell (World.block_lt_of_cell? w _ hx252_2)).trans hx252_2
         replace hx252_3 := (HB.out.cell (World.block_lt_of_cell? w _ hx252_3)).trans hx252_3
         have HR252_3 := Aside0.mk hi252_3
         have HC252_3 := Aside0.mk hl252_3
         clear hi252_3 hl252_3
         replace p252 := eq_true p252
         replace q252 := eq_true q252
         have ea_ := Option.some.inj (hx251_3.symm.trans hx252_3)
         injection ea_ with ea_ en_ ec_
         subst ea_
         subst ec_
         clear en_
         go_wp2
         repeat (go_quiet (fail); try go_wp2)
         go_roundg kj35
         case measure => have := HJ1.out; have := HK2.out; have := HJ15.out; have := HJ35.out; omega
         case rel => exact ⟨((wrap64 (x3_2 + t246))), (x4_15), (wrap64 (x28_2 + 1)), aR, aR, H', ⟨by have := HJ1.out; have := HK2.out; have := HJ15.out; have := HJ35.out; omega⟩, ⟨aP HO_4.out⟩, ⟨aE⟩⟩
end Go.Proofs.YtbhklkpjjpkblaaGreatDoor.PP
