-- Printed by this session's pdrive.py over the kit's printer.
import Derived.Test.YtaliphegdclkfaaPLx0
import Derived.Test.YtaliphegdclkfaaPLx2
import Derived.Test.YtaliphegdclkfaaPLx3
namespace Go.Proofs.Ytaliphegdclkfaa.PL
open Go.RowKit Go.Proofs.YtaliphegdclkfaaW.PrintWords Go.Proofs.YtaliphegdclkfaaW.PrintLast Go.Proofs.YtaliphegdclkfaaW.PrintMore Go.Proofs.YtaliphegdclkfaaW.WordsB
attribute [local go_sem] max2_int min2_int max_two min_two max_three min_three max_four min_four   -- for this text's walks alone
set_option linter.unusedVariables false
set_option linter.unusedSimpArgs false

/-! ### spec_ParticleOk: function 10 -/
mutual
def spec_ParticleOk.j0 : Nat → List (S44) → Bool → Option (Bool)
 | 0, _, _ => none
 | k + 1, x0, x14 => if x14 = true then (some false) else (spec_ParticleOk.l0 k x0 0)
def spec_ParticleOk.l0 : Nat → List (S44) → Int → Option (Bool)
 | 0, _, _ => none
 | k + 1, x0, x3 => if x3 < (x0.length : Int) then (if 0 ≤ x3 then ((spec_l1In.f ((rd_T44 x0 x3).f3) 0 3).bind fun t153 => (if t153 = true then (if ((rd_T44 x0 x3).f0) = 1 then ((spec_NameOk.f k ((rd_T44 x0 x3).f1)).bind fun t154 => (if t154 = true then (if (((rd_T44 x0 x3).f2).length : Int) > 0 then (some false) else (spec_ParticleOk.j2 k x0 x3 ((rd_T44 x0 x3).f0) ((rd_T44 x0 x3).f1) ((rd_T44 x0 x3).f2) ((rd_T44 x0 x3).f3))) else (some false))) else (if ((rd_T44 x0 x3).f0) = 4 then (if ((rd_T44 x0 x3).f1).toList = ([] : List UInt8) then (if (((rd_T44 x0 x3).f2).length : Int) > 0 then (some false) else (spec_ParticleOk.j2 k x0 x3 ((rd_T44 x0 x3).f0) ((rd_T44 x0 x3).f1) ((rd_T44 x0 x3).f2) ((rd_T44 x0 x3).f3))) else (some false)) else (if ((rd_T44 x0 x3).f0) = 2 then (if ((rd_T44 x0 x3).f1).toList = ([] : List UInt8) then (spec_ParticleOk.j2 k x0 x3 ((rd_T44 x0 x3).f0) ((rd_T44 x0 x3).f1) ((rd_T44 x0 x3).f2) ((rd_T44 x0 x3).f3)) else (some false)) else (if ((rd_T44 x0 x3).f0) = 3 then (if ((rd_T44 x0 x3).f1).toList = ([] : List UInt8) then (if (((rd_T44 x0 x3).f2).length : Int) < 2 then (some false) else (spec_ParticleOk.j2 k x0 x3 ((rd_T44 x0 x3).f0) ((rd_T44 x0 x3).f1) ((rd_T44 x0 x3).f2) ((rd_T44 x0 x3).f3))) else (some false)) else (some false))))) else (some false))) else (none)) else ((spec_l8Tree.f k x0 (wrap64 ((x0.length : Int) - 1))).bind fun t147 => (if t147 = 0 then (if 0 ≤ (wrap64 ((x0.length : Int) - 1)) then (if (wrap64 ((x0.length : Int) - 1)) < (x0.length : Int) then (if ((rd_T44 x0 (wrap64 ((x0.length : Int) - 1))).f0) = 1 then (some false) else (if ((rd_T44 x0 (wrap64 ((x0.length : Int) - 1))).f0) = 4 then (some false) else ((spec_l8Deep.f k x0 (wrap64 ((x0.length : Int) - 1))).bind fun t150 => (some (decide (t150 ≤ 10)))))) else (none)) else (none)) else (some false)))
def spec_ParticleOk.j2 : Nat → List (S44) → Int → Int → ByteArray → List Int → Int → Option (Bool)
 | 0, _, _, _, _, _, _ => none
 | k + 1, x0, x3, x153000, x153001, x153002, x153003 => spec_ParticleOk.l1 k x0 x3 0 x153000 x153001 x153002 x153003
def spec_ParticleOk.l1 : Nat → List (S44) → Int → Int → Int → ByteArray → List Int → Int → Option (Bool)
 | 0, _, _, _, _, _, _, _ => none
 | k + 1, x0, x3, x5, x153000, x153001, x153002, x153003 => if x5 < (x153002.length : Int) then (if 0 ≤ x5 then ((spec_l1In.f (rd x153002 x5) 0 (wrap64 (x3 - 1))).bind fun t156 => (if t156 = true then (spec_ParticleOk.l1 k x0 x3 (wrap64 (x5 + 1)) x153000 x153001 x153002 x153003) else (some false))) else (none)) else (spec_ParticleOk.l0 k x0 (wrap64 (x3 + 1)))
end
def spec_ParticleOk.f (k : Nat) (l0 : List (S44)) : Option (Bool) := if (l0.length : Int) < 1 then (spec_ParticleOk.j0 k l0 true) else (spec_ParticleOk.j0 k l0 (decide ((l0.length : Int) > 40)))
theorem spec_ParticleOk.mono_l : ∀ k, (∀ y0 y1, LeO (spec_ParticleOk.j0 k y0 y1) (spec_ParticleOk.j0 (k + 1) y0 y1)) ∧ (∀ y0 y1, LeO (spec_ParticleOk.l0 k y0 y1) (spec_ParticleOk.l0 (k + 1) y0 y1)) ∧ (∀ y0 y1 y2 y3 y4 y5, LeO (spec_ParticleOk.j2 k y0 y1 y2 y3 y4 y5) (spec_ParticleOk.j2 (k + 1) y0 y1 y2 y3 y4 y5)) ∧ (∀ y0 y1 y2 y3 y4 y5 y6, LeO (spec_ParticleOk.l1 k y0 y1 y2 y3 y4 y5 y6) (spec_ParticleOk.l1 (k + 1) y0 y1 y2 y3 y4 y5 y6))
 | 0 => ⟨fun _ _ r h => by simp [spec_ParticleOk.j0] at h, fun _ _ r h => by simp [spec_ParticleOk.l0] at h, fun _ _ _ _ _ _ r h => by simp [spec_ParticleOk.j2] at h, fun _ _ _ _ _ _ _ r h => by simp [spec_ParticleOk.l1] at h⟩
 | k + 1 => by
  obtain ⟨ih0, ih1, ih2, ih3⟩ := spec_ParticleOk.mono_l k
  refine ⟨?_, ?_, ?_, ?_⟩
  ·intro y0 y1
   unfold spec_ParticleOk.j0
   repeat' first
   | (with_reducible exact ih0 _ _)
   | (with_reducible exact ih1 _ _)
   | (with_reducible exact ih2 _ _ _ _ _ _)
   | (with_reducible exact ih3 _ _ _ _ _ _ _)
   | (with_reducible exact spec_NameOk.mono _ _)
   | (with_reducible exact spec_l8Deep.mono _ _ _)
   | (with_reducible exact spec_l8Tree.mono _ _ _)
   | (with_reducible exact LeO.refl _)
   | (with_reducible exact LeO.none _)
   | (with_reducible refine LeO.ite ?_ ?_)
   | (with_reducible refine LeO.bind ?_ (fun _ => ?_))
   | exact ih0 _ _
   | exact ih1 _ _
   | exact ih2 _ _ _ _ _ _
   | exact ih3 _ _ _ _ _ _ _
   | exact spec_NameOk.mono _ _
   | exact spec_l8Deep.mono _ _ _
   | exact spec_l8Tree.mono _ _ _
   | exact LeO.none _
   | refine LeO.ite ?_ ?_
   | refine LeO.bind ?_ (fun _ => ?_)
  ·intro y0 y1
   unfold spec_ParticleOk.l0
   repeat' first
   | (with_reducible exact ih0 _ _)
   | (with_reducible exact ih1 _ _)
   | (with_reducible exact ih2 _ _ _ _ _ _)
   | (with_reducible exact ih3 _ _ _ _ _ _ _)
   | (with_reducible exact spec_NameOk.mono _ _)
   | (with_reducible exact spec_l8Deep.mono _ _ _)
   | (with_reducible exact spec_l8Tree.mono _ _ _)
   | (with_reducible exact LeO.refl _)
   | (with_reducible exact LeO.none _)
   | (with_reducible refine LeO.ite ?_ ?_)
   | (with_reducible refine LeO.bind ?_ (fun _ => ?_))
   | exact ih0 _ _
   | exact ih1 _ _
   | exact ih2 _ _ _ _ _ _
   | exact ih3 _ _ _ _ _ _ _
   | exact spec_NameOk.mono _ _
   | exact spec_l8Deep.mono _ _ _
   | exact spec_l8Tree.mono _ _ _
   | exact LeO.none _
   | refine LeO.ite ?_ ?_
   | refine LeO.bind ?_ (fun _ => ?_)
  ·intro y0 y1 y2 y3 y4 y5
   unfold spec_ParticleOk.j2
   repeat' first
   | (with_reducible exact ih0 _ _)
   | (with_reducible exact ih1 _ _)
   | (with_reducible exact ih2 _ _ _ _ _ _)
   | (with_reducible exact ih3 _ _ _ _ _ _ _)
   | (with_reducible exact spec_NameOk.mono _ _)
   | (with_reducible exact spec_l8Deep.mono _ _ _)
   | (with_reducible exact spec_l8Tree.mono _ _ _)
   | (with_reducible exact LeO.refl _)
   | (with_reducible exact LeO.none _)
   | (with_reducible refine LeO.ite ?_ ?_)
   | (with_reducible refine LeO.bind ?_ (fun _ => ?_))
   | exact ih0 _ _
   | exact ih1 _ _
   | exact ih2 _ _ _ _ _ _
   | exact ih3 _ _ _ _ _ _ _
   | exact spec_NameOk.mono _ _
   | exact spec_l8Deep.mono _ _ _
   | exact spec_l8Tree.mono _ _ _
   | exact LeO.none _
   | refine LeO.ite ?_ ?_
   | refine LeO.bind ?_ (fun _ => ?_)
  ·intro y0 y1 y2 y3 y4 y5 y6
   unfold spec_ParticleOk.l1
   repeat' first
   | (with_reducible exact ih0 _ _)
   | (with_reducible exact ih1 _ _)
   | (with_reducible exact ih2 _ _ _ _ _ _)
   | (with_reducible exact ih3 _ _ _ _ _ _ _)
   | (with_reducible exact spec_NameOk.mono _ _)
   | (with_reducible exact spec_l8Deep.mono _ _ _)
   | (with_reducible exact spec_l8Tree.mono _ _ _)
   | (with_reducible exact LeO.refl _)
   | (with_reducible exact LeO.none _)
   | (with_reducible refine LeO.ite ?_ ?_)
   | (with_reducible refine LeO.bind ?_ (fun _ => ?_))
   | exact ih0 _ _
   | exact ih1 _ _
   | exact ih2 _ _ _ _ _ _
   | exact ih3 _ _ _ _ _ _ _
   | exact spec_NameOk.mono _ _
   | exact spec_l8Deep.mono _ _ _
   | exact spec_l8Tree.mono _ _ _
   | exact LeO.none _
   | refine LeO.ite ?_ ?_
   | refine LeO.bind ?_ (fun _ => ?_)
theorem spec_ParticleOk.mono : ∀ a0 k, LeO (spec_ParticleOk.f k a0) (spec_ParticleOk.f (k + 1) a0) := by
 intro a0 k
 obtain ⟨ih0, ih1, ih2, ih3⟩ := spec_ParticleOk.mono_l k
 unfold spec_ParticleOk.f
 repeat' first
   | (with_reducible exact ih0 _ _)
   | (with_reducible exact ih1 _ _)
   | (with_reducible exact ih2 _ _ _ _ _ _)
   | (with_reducible exact ih3 _ _ _ _ _ _ _)
   | (with_reducible exact spec_NameOk.mono _ _)
   | (with_reducible exact spec_l8Deep.mono _ _ _)
   | (with_reducible exact spec_l8Tree.mono _ _ _)
   | (with_reducible exact LeO.refl _)
   | (with_reducible exact LeO.none _)
   | (with_reducible refine LeO.ite ?_ ?_)
   | (with_reducible refine LeO.bind ?_ (fun _ => ?_))
   | exact ih0 _ _
   | exact ih1 _ _
   | exact ih2 _ _ _ _ _ _
   | exact ih3 _ _ _ _ _ _ _
   | exact spec_NameOk.mono _ _
   | exact spec_l8Deep.mono _ _ _
   | exact spec_l8Tree.mono _ _ _
   | exact LeO.none _
   | refine LeO.ite ?_ ?_
   | refine LeO.bind ?_ (fun _ => ?_)
set_option maxHeartbeats 8000000 in
set_option maxRecDepth 100000 in
theorem spec_ParticleOk.calls (k : Nat) (A0 : Option Addr) (c0 : Nat) (l0 : List (S44)) (r : Bool) (w : World) (hr0 : Kd.C k44 w A0 l0.length l0) (hc0 : l0.length ≤ c0) (h : spec_ParticleOk.f k l0 = some r) :
  Calls Try.prog 10 #[.slice A0 l0.length c0] w fun e w' => e = .returned (.bool r) ∧ Below w.heap.size w w' := by
 have hu44 := Try.underlying44
 have HR0 := Aside0.mk hr0
 have HC0 := Aside0.mk hc0
 clear hr0 hc0
 have HB := Aside0.mk (Below.refl w.heap.size w)
 have H : (if (l0.length : Int) < 1 then (spec_ParticleOk.j0 k l0 true) else (spec_ParticleOk.j0 k l0 (decide ((l0.length : Int) > 40)))) = some r := h
 clear h
 have HC2 := Aside0.mk H
 clear H
 go_enter Try.func10, Try.ntmps10
 go_upto_region 1 with (fail)
 go_cut [14] (fun v14 wc => ∃ (kq : Nat) (x14_1 : Bool), v14 = .bool x14_1 ∧ Aside0 (spec_ParticleOk.j0 kq l0 x14_1 = some r) ∧ Aside0 (kq ≤ k) ∧ Aside0 (Below w.heap.size w wc))
 case first =>
  have H := HC2.out
  clear HC2
  by_cases c3 : (l0.length : Int) < 1
  ·rw [if_pos c3] at H
   have c3b0 : decide ((l0.length : Int) < 1) = true := decide_eq_true c3
   have c3b1 : decide (l0.length < 1) = true := decide_eq_true (by omega)
   clear c3
   (first | rw [c3b0] | (simp only [i64_w, i32_w]; rw [c3b0]) | skip)
   have H' := Aside0.mk H
   clear H
   go_wp2
   go_meet
   case rel => exact ⟨_, (true), (by first | rfl | (simp; done) | (simp [*]; done)), H', ⟨by first | omega | exact Nat.le_refl _⟩, ⟨by repeat (first | (with_reducible first | exact HB.out | apply below_alloc | apply pw_below_drewN | apply below_drew1) | exact HB.out)⟩⟩
  ·rw [if_neg c3] at H
   have c3b0 : decide ((l0.length : Int) < 1) = false := decide_eq_false c3
   have c3b1 : decide (l0.length < 1) = false := decide_eq_false (by omega)
   clear c3
   (first | rw [c3b0] | (simp only [i64_w, i32_w]; rw [c3b0]) | skip)
   have H' := Aside0.mk H
   clear H
   go_wp2
   go_meet
   case rel => exact ⟨_, (decide ((l0.length : Int) > 40)), (by first | rfl | (simp; done) | (simp [*]; done)), H', ⟨by first | omega | exact Nat.le_refl _⟩, ⟨by repeat (first | (with_reducible first | exact HB.out | apply below_alloc | apply pw_below_drewN | apply below_drew1) | exact HB.out)⟩⟩
 case rest =>
  clear HC2
  try clear c1
  try clear p2
  try clear c3
  try clear c3b0
  try clear c3b1
  obtain ⟨kq, x14_1, rfl, HA, HJ1, HB⟩ := hcut
  cases kq with
  | zero => exact absurd HA.out (by simp [spec_ParticleOk.j0])
  | succ kj1 =>
   have H := HA.out
   clear HA
   simp only [spec_ParticleOk.j0] at H
   by_cases c4 : x14_1 = true
   ·subst c4
    have H1 : (some false) = some r := by rw [if_pos rfl] at H; exact H
    clear H
    have H := H1
    clear H1
    obtain rfl := Option.some.inj H
    go_wp2
    go_ret
    exact ⟨by first | rfl | (simp only [show ∀ l_ : List UInt8, (l_ != []) = !l_.isEmpty from fun l_ => by cases l_ <;> rfl, show ∀ l_ : List UInt8, (l_ == []) = l_.isEmpty from fun l_ => by cases l_ <;> rfl]; rfl) | (simp [*] <;> rfl), by repeat (first | (with_reducible first | exact HB.out | apply below_alloc | apply pw_below_drewN | apply below_drew1) | exact HB.out)⟩
   ·replace c4 := Bool.eq_false_iff.mpr c4
    subst c4
    have H1 : (spec_ParticleOk.l0 kj1 l0 0) = some r := by rw [if_neg (show ¬ (false = true) by decide)] at H; exact H
    clear H
    have H := H1
    clear H1
    have H' := Aside0.mk H
    clear H
    go_wp2
    go_loopg [3] kj1 (fun kq v3 w' => ∃ (x3_2 : Int), v3 = .int .i64 x3_2 ∧ Aside0 (spec_ParticleOk.l0 kq l0 x3_2 = some r) ∧ Aside0 (kq ≤ kj1) ∧ Aside0 (Below w.heap.size w w'))
    case atStart => exact ⟨(0), (by first | rfl | (simp; done) | (simp [*]; done)), H', ⟨Nat.le_refl _⟩, ⟨by repeat (first | (with_reducible first | exact HB.out | apply below_alloc | apply pw_below_drewN | apply below_drew1) | exact HB.out)⟩⟩
    case round =>
     clear H'
     try clear c1
     try clear p2
     try clear c3
     try clear c3b0
     try clear c3b1
     try clear c4
     try clear p2
     obtain ⟨x3_2, rfl, HA, HK2, HB⟩ := hrel
     cases gk with
     | zero => exact absurd HA.out (by simp [spec_ParticleOk.l0])
     | succ k2 =>
      have H := HA.out
      clear HA
      simp only [spec_ParticleOk.l0] at H
      by_cases c5 : x3_2 < (l0.length : Int)
      ·rw [if_pos c5] at H
       have c5b0 : decide (x3_2 < (l0.length : Int)) = true := decide_eq_true c5
       clear c5
       by_cases c6 : 0 ≤ x3_2
       ·rw [if_pos c6] at H
        have c6b0 : decide (0 ≤ x3_2) = true := decide_eq_true c6
        clear c6
        replace H := Option.bind_eq_some_iff.mp H
        obtain ⟨t153, A70, H⟩ := H
        replace H : (if t153 = true then (if ((rd_T44 l0 x3_2).f0) = 1 then ((spec_NameOk.f k2 ((rd_T44 l0 x3_2).f1)).bind fun t154 => (if t154 = true then (if (((rd_T44 l0 x3_2).f2).length : Int) > 0 then (some false) else (spec_ParticleOk.j2 k2 l0 x3_2 ((rd_T44 l0 x3_2).f0) ((rd_T44 l0 x3_2).f1) ((rd_T44 l0 x3_2).f2) ((rd_T44 l0 x3_2).f3))) else (some false))) else (if ((rd_T44 l0 x3_2).f0) = 4 then (if ((rd_T44 l0 x3_2).f1).toList = ([] : List UInt8) then (if (((rd_T44 l0 x3_2).f2).length : Int) > 0 then (some false) else (spec_ParticleOk.j2 k2 l0 x3_2 ((rd_T44 l0 x3_2).f0) ((rd_T44 l0 x3_2).f1) ((rd_T44 l0 x3_2).f2) ((rd_T44 l0 x3_2).f3))) else (some false)) else (if ((rd_T44 l0 x3_2).f0) = 2 then (if ((rd_T44 l0 x3_2).f1).toList = ([] : List UInt8) then (spec_ParticleOk.j2 k2 l0 x3_2 ((rd_T44 l0 x3_2).f0) ((rd_T44 l0 x3_2).f1) ((rd_T44 l0 x3_2).f2) ((rd_T44 l0 x3_2).f3)) else (some false)) else (if ((rd_T44 l0 x3_2).f0) = 3 then (if ((rd_T44 l0 x3_2).f1).toList = ([] : List UInt8) then (if (((rd_T44 l0 x3_2).f2).length : Int) < 2 then (some false) else (spec_ParticleOk.j2 k2 l0 x3_2 ((rd_T44 l0 x3_2).f0) ((rd_T44 l0 x3_2).f1) ((rd_T44 l0 x3_2).f2) ((rd_T44 l0 x3_2).f3))) else (some false)) else (some false))))) else (some false)) = some r := H
        have A7 := Aside0.mk A70
        clear A70
        by_cases c8 : t153 = true
        ·subst c8
         have H1 : (if ((rd_T44 l0 x3_2).f0) = 1 then ((spec_NameOk.f k2 ((rd_T44 l0 x3_2).f1)).bind fun t154 => (if t154 = true then (if (((rd_T44 l0 x3_2).f2).length : Int) > 0 then (some false) else (spec_ParticleOk.j2 k2 l0 x3_2 ((rd_T44 l0 x3_2).f0) ((rd_T44 l0 x3_2).f1) ((rd_T44 l0 x3_2).f2) ((rd_T44 l0 x3_2).f3))) else (some false))) else (if ((rd_T44 l0 x3_2).f0) = 4 then (if ((rd_T44 l0 x3_2).f1).toList = ([] : List UInt8) then (if (((rd_T44 l0 x3_2).f2).length : Int) > 0 then (some false) else (spec_ParticleOk.j2 k2 l0 x3_2 ((rd_T44 l0 x3_2).f0) ((rd_T44 l0 x3_2).f1) ((rd_T44 l0 x3_2).f2) ((rd_T44 l0 x3_2).f3))) else (some false)) else (if ((rd_T44 l0 x3_2).f0) = 2 then (if ((rd_T44 l0 x3_2).f1).toList = ([] : List UInt8) then (spec_ParticleOk.j2 k2 l0 x3_2 ((rd_T44 l0 x3_2).f0) ((rd_T44 l0 x3_2).f1) ((rd_T44 l0 x3_2).f2) ((rd_T44 l0 x3_2).f3)) else (some false)) else (if ((rd_T44 l0 x3_2).f0) = 3 then (if ((rd_T44 l0 x3_2).f1).toList = ([] : List UInt8) then (if (((rd_T44 l0 x3_2).f2).length : Int) < 2 then (some false) else (spec_ParticleOk.j2 k2 l0 x3_2 ((rd_T44 l0 x3_2).f0) ((rd_T44 l0 x3_2).f1) ((rd_T44 l0 x3_2).f2) ((rd_T44 l0 x3_2).f3))) else (some false)) else (some false))))) = some r := by rw [if_pos rfl] at H; exact H
         clear H
         have H := H1
         clear H1
         have HC9 := Aside0.mk H
         clear H
         have p151 : 0 ≤ (x3_2 : Int) := of_decide_eq_true (by first | (with_reducible assumption) | assumption)
         have q151 : x3_2 < (l0.length : Int) := of_decide_eq_true (by first | (with_reducible assumption) | assumption)
         obtain ⟨ad151, A151_2, c151_2, e151, hx151_0, hx151_1, hx151_2, hx151_3, hl151_2, hi151_2⟩ := at_T44 HR0.out x3_2 p151 q151
         cases e151
         replace hx151_0 := (HB.out.cell (World.block_lt_of_cell? w _ hx151_0)).trans hx151_0
         replace hx151_1 := (HB.out.cell (World.block_lt_of_cell? w _ hx151_1)).trans hx151_1
         replace hx151_2 := (HB.out.cell (World.block_lt_of_cell? w _ hx151_2)).trans hx151_2
         replace hx151_3 := (HB.out.cell (World.block_lt_of_cell? w _ hx151_3)).trans hx151_3
         have HR151_2 := Aside0.mk hi151_2
         have HC151_2 := Aside0.mk hl151_2
         clear hi151_2 hl151_2
         replace p151 := eq_true p151
         replace q151 := eq_true q151
         go_upto_block 2 with (first | ((with_reducible refine gate_dst (N := 4) rfl ?_); (try (refine gate_guard (by rfl) ?_; dsimp only)); refine box_event ?hg (N := 4) ?hd (cs := #[.int .i64 0, .string (⟨#[]⟩ : ByteArray), .slice none 0 0, .int .i64 0]) (t := 44) ?hr ?_; (case hd => rfl); (case hg => rfl); (case hr => first | (go_simp; done) | (go_simp; rfl)); intro gb152 hg w10 hbox hb; have n0_ := Aside0.mk (below_step (by repeat (first | (with_reducible first | exact HB.out | apply below_alloc | apply pw_below_drewN | apply below_drew1) | exact HB.out)) hb); have n1_ := Aside0.mk (hbox); have n2_ := Aside0.mk ((by rw [hg]; exact (below_size (by repeat (first | (with_reducible first | exact HB.out | apply below_alloc | apply pw_below_drewN | apply below_drew1) | exact HB.out))) : w.heap.size ≤ gb152)); have n3_ := Aside0.mk ((by rw [hg]; exact (below_size (by repeat (first | (with_reducible first | exact HB.out | apply below_alloc | apply pw_below_drewN | apply below_drew1) | exact HB.out))) : w.heap.size ≤ gb152)); clear HB; have HB := n0_; have BK152 := n1_; have GW152 := n2_; have GE152 := n3_; clear n0_ n1_ n2_ n3_; clear hb hbox hg; have hcz11_0 : w10.cell? ⟨gb152, 0, none⟩ = some (.int .i64 0) := (blk_cell BK152.out 0).trans rfl; have hcz11_1 : w10.cell? ⟨gb152, 1, none⟩ = some (.string (⟨#[]⟩ : ByteArray)) := (blk_cell BK152.out 1).trans rfl; have hcz11_2 : w10.cell? ⟨gb152, 2, none⟩ = some (.slice none 0 0) := (blk_cell BK152.out 2).trans rfl; have hcz11_3 : w10.cell? ⟨gb152, 3, none⟩ = some (.int .i64 0) := (blk_cell BK152.out 3).trans rfl; have hfz11_0 := blk_frozen BK152.out 0; have hfz11_1 := blk_frozen BK152.out 1; have hfz11_2 := blk_frozen BK152.out 2; have hfz11_3 := blk_frozen BK152.out 3) | ((with_reducible refine gate_store (t := 44) (p := 4) rfl ?_); refine store_event (t := 44) (p := 4) (v := ?vo_w12) (w1 := ((((w10.setCell ⟨gb152, 0, none⟩ (.int .i64 ((rd_T44 l0 x3_2).f0))).setCell ⟨gb152, 1, none⟩ (.string ((rd_T44 l0 x3_2).f1))).setCell ⟨gb152, 2, none⟩ (.slice A151_2 ((rd_T44 l0 x3_2).f2).length c151_2)).setCell ⟨gb152, 3, none⟩ (.int .i64 ((rd_T44 l0 x3_2).f3)))) ?hg ?ho ?hn ?hr ?_; (case ho => rfl); (case hg => rfl); (case hn => rfl); (case hr => first | (go_simp; done) | (go_simp; rfl)); intro w12 hw; have n0_ : Aside0 (w12.heap[gb152]? = some (.cells #[.int .i64 ((rd_T44 l0 x3_2).f0), .string ((rd_T44 l0 x3_2).f1), .slice A151_2 ((rd_T44 l0 x3_2).f2).length c151_2, .int .i64 ((rd_T44 l0 x3_2).f3)] 44 (0, 0))) := ⟨(by rw [hw]; exact (by (with_reducible repeat (first | refine blk_drewN ?_ _ | refine blk_drew ?_ | refine blk_alloc ?_ _)); refine blk_put (cs := #[.int .i64 ((rd_T44 l0 x3_2).f0), .string ((rd_T44 l0 x3_2).f1), .slice A151_2 ((rd_T44 l0 x3_2).f2).length c151_2, .int .i64 0]) ?_ 3 _ rfl; (with_reducible repeat (first | refine blk_drewN ?_ _ | refine blk_drew ?_ | refine blk_alloc ?_ _)); refine blk_put (cs := #[.int .i64 ((rd_T44 l0 x3_2).f0), .string ((rd_T44 l0 x3_2).f1), .slice none 0 0, .int .i64 0]) ?_ 2 _ rfl; (with_reducible repeat (first | refine blk_drewN ?_ _ | refine blk_drew ?_ | refine blk_alloc ?_ _)); refine blk_put (cs := #[.int .i64 ((rd_T44 l0 x3_2).f0), .string (⟨#[]⟩ : ByteArray), .slice none 0 0, .int .i64 0]) ?_ 1 _ rfl; (with_reducible repeat (first | refine blk_drewN ?_ _ | refine blk_drew ?_ | refine blk_alloc ?_ _)); refine blk_put (cs := #[.int .i64 0, .string (⟨#[]⟩ : ByteArray), .slice none 0 0, .int .i64 0]) ?_ 0 _ rfl; (with_reducible repeat (first | refine blk_drewN ?_ _ | refine blk_drew ?_ | refine blk_alloc ?_ _)); exact BK152.out))⟩; have n1_ : Aside0 (Below w.heap.size w w12) := ⟨(by rw [hw]; exact (by repeat (first | (with_reducible first | exact HB.out | apply below_alloc | apply pw_below_drewN | apply below_drew1 | refine below_set ?_ GE152.out) | exact HB.out)))⟩; clear hw; clear BK152; clear HB; have BK152 := n0_; have HB := n1_; clear n0_ n1_; have hcz13_0 : w12.cell? ⟨gb152, 0, none⟩ = some (.int .i64 ((rd_T44 l0 x3_2).f0)) := (blk_cell BK152.out 0).trans rfl; have hcz13_1 : w12.cell? ⟨gb152, 1, none⟩ = some (.string ((rd_T44 l0 x3_2).f1)) := (blk_cell BK152.out 1).trans rfl; have hcz13_2 : w12.cell? ⟨gb152, 2, none⟩ = some (.slice A151_2 ((rd_T44 l0 x3_2).f2).length c151_2) := (blk_cell BK152.out 2).trans rfl; have hcz13_3 : w12.cell? ⟨gb152, 3, none⟩ = some (.int .i64 ((rd_T44 l0 x3_2).f3)) := (blk_cell BK152.out 3).trans rfl; have hfz13_0 := blk_frozen BK152.out 0; have hfz13_1 := blk_frozen BK152.out 1; have hfz13_2 := blk_frozen BK152.out 2; have hfz13_3 := blk_frozen BK152.out 3) | ((with_reducible refine gate_callee (f := 30) rfl ?_); refine goesL_ (some 27) rfl rfl Try.func30 (by kernel_rfl) rfl #[.int .i64 ((rd_T44 l0 x3_2).f3), .int .i64 0, .int .i64 3] rfl (by (try simp only [List.map_toArray, List.map_cons, List.map_nil]); first | done | rfl | (simp only [List.length_drop, List.length_take]; rfl)) ?_; (with_reducible refine (spec_l1In.calls ((rd_T44 l0 x3_2).f3) 0 3 true _ A7.out).mono ?_); rintro e w' ⟨rfl, ⟨nd, rfl⟩⟩; refine ⟨_, rfl, ?_⟩))
         (try simp only [Act.put, List.setIfInBounds_toArray, List.set_cons_zero, List.set_cons_succ])
         go_cut [] (fun wc => ∃ (kq : Nat), Aside0 (spec_ParticleOk.j2 kq l0 x3_2 ((rd_T44 l0 x3_2).f0) ((rd_T44 l0 x3_2).f1) ((rd_T44 l0 x3_2).f2) ((rd_T44 l0 x3_2).f3) = some r) ∧ Aside0 (kq ≤ k2) ∧ Aside0 (wc.heap[gb152]? = some (.cells #[.int .i64 ((rd_T44 l0 x3_2).f0), .string ((rd_T44 l0 x3_2).f1), (.slice A151_2 ((rd_T44 l0 x3_2).f2).length c151_2), .int .i64 ((rd_T44 l0 x3_2).f3)] 44 (0, 0))) ∧ Aside0 (Below w.heap.size w wc))
         case first =>
          have H := HC9.out
          clear HC9
          by_cases c14 : ((rd_T44 l0 x3_2).f0) = 1
          ·rw [if_pos c14] at H
           have c14b0 : (((rd_T44 l0 x3_2).f0) == 1) = true := beq_iff_eq.mpr c14
           have c14b1 : (((rd_T44 l0 x3_2).f0) != 1) = false := bne_eq_false_iff_eq.mpr c14
           clear c14
           (first | rw [c14b0] | (simp only [i64_w, i32_w]; rw [c14b0]) | skip)
           replace H := Option.bind_eq_some_iff.mp H
           obtain ⟨t154, A150, H⟩ := H
           replace H : (if t154 = true then (if (((rd_T44 l0 x3_2).f2).length : Int) > 0 then (some false) else (spec_ParticleOk.j2 k2 l0 x3_2 ((rd_T44 l0 x3_2).f0) ((rd_T44 l0 x3_2).f1) ((rd_T44 l0 x3_2).f2) ((rd_T44 l0 x3_2).f3))) else (some false)) = some r := H
           have A15 := Aside0.mk A150
           clear A150
           by_cases c16 : t154 = true
           ·subst c16
            have H1 : (if (((rd_T44 l0 x3_2).f2).length : Int) > 0 then (some false) else (spec_ParticleOk.j2 k2 l0 x3_2 ((rd_T44 l0 x3_2).f0) ((rd_T44 l0 x3_2).f1) ((rd_T44 l0 x3_2).f2) ((rd_T44 l0 x3_2).f3))) = some r := by rw [if_pos rfl] at H; exact H
            clear H
            have H := H1
            clear H1
            by_cases c17 : (((rd_T44 l0 x3_2).f2).length : Int) > 0
            ·rw [if_pos c17] at H
             have c17b0 : decide (0 < (((rd_T44 l0 x3_2).f2).length : Int)) = true := decide_eq_true c17
             have c17b1 : decide (0 < ((rd_T44 l0 x3_2).f2).length) = true := decide_eq_true (by omega)
             clear c17
             obtain rfl := Option.some.inj H
             have hcz18_0 : w12.cell? ⟨gb152, 0, none⟩ = some (.int .i64 ((rd_T44 l0 x3_2).f0)) := (blk_cell BK152.out 0).trans rfl
             have hcz18_1 : w12.cell? ⟨gb152, 1, none⟩ = some (.string ((rd_T44 l0 x3_2).f1)) := (blk_cell BK152.out 1).trans rfl
             have hcz18_2 : w12.cell? ⟨gb152, 2, none⟩ = some (.slice A151_2 ((rd_T44 l0 x3_2).f2).length c151_2) := (blk_cell BK152.out 2).trans rfl
             have hcz18_3 : w12.cell? ⟨gb152, 3, none⟩ = some (.int .i64 ((rd_T44 l0 x3_2).f3)) := (blk_cell BK152.out 3).trans rfl
             have hfz18_0 := blk_frozen BK152.out 0
             have hfz18_1 := blk_frozen BK152.out 1
             have hfz18_2 := blk_frozen BK152.out 2
             have hfz18_3 := blk_frozen BK152.out 3
             go_wp2_with (first | ((with_reducible refine gate_callee (f := 31) rfl ?_); refine goesL_ (some 35) rfl rfl Try.func31 (by kernel_rfl) rfl #[.string ((rd_T44 l0 x3_2).f1)] rfl (by (try simp only [List.map_toArray, List.map_cons, List.map_nil]); first | done | rfl | (simp only [List.length_drop, List.length_take]; rfl)) ?_; (with_reducible refine (spec_NameOk.calls k2 ((rd_T44 l0 x3_2).f1) true _ A15.out).mono ?_); rintro e w' ⟨rfl, ⟨nd, rfl⟩⟩; refine ⟨_, rfl, ?_⟩))
             go_ret
             exact ⟨by first | rfl | (simp only [show ∀ l_ : List UInt8, (l_ != []) = !l_.isEmpty from fun l_ => by cases l_ <;> rfl, show ∀ l_ : List UInt8, (l_ == []) = l_.isEmpty from fun l_ => by cases l_ <;> rfl]; rfl) | (simp [*] <;> rfl), by repeat (first | (with_reducible first | exact HB.out | apply below_alloc | apply pw_below_drewN | apply below_drew1 | refine below_set ?_ GE152.out) | exact HB.out)⟩
            ·rw [if_neg c17] at H
             have c17b0 : decide (0 < (((rd_T44 l0 x3_2).f2).length : Int)) = false := decide_eq_false c17
             have c17b1 : decide (0 < ((rd_T44 l0 x3_2).f2).length) = false := decide_eq_false (by omega)
             clear c17
             have H' := Aside0.mk H
             clear H
             have hcz19_0 : w12.cell? ⟨gb152, 0, none⟩ = some (.int .i64 ((rd_T44 l0 x3_2).f0)) := (blk_cell BK152.out 0).trans rfl
             have hcz19_1 : w12.cell? ⟨gb152, 1, none⟩ = some (.string ((rd_T44 l0 x3_2).f1)) := (blk_cell BK152.out 1).trans rfl
             have hcz19_2 : w12.cell? ⟨gb152, 2, none⟩ = some (.slice A151_2 ((rd_T44 l0 x3_2).f2).length c151_2) := (blk_cell BK152.out 2).trans rfl
             have hcz19_3 : w12.cell? ⟨gb152, 3, none⟩ = some (.int .i64 ((rd_T44 l0 x3_2).f3)) := (blk_cell BK152.out 3).trans rfl
             have hfz19_0 := blk_frozen BK152.out 0
             have hfz19_1 := blk_frozen BK152.out 1
             have hfz19_2 := blk_frozen BK152.out 2
             have hfz19_3 := blk_frozen BK152.out 3
             go_wp2_with (first | ((with_reducible refine gate_callee (f := 31) rfl ?_); refine goesL_ (some 35) rfl rfl Try.func31 (by kernel_rfl) rfl #[.string ((rd_T44 l0 x3_2).f1)] rfl (by (try simp only [List.map_toArray, List.map_cons, List.map_nil]); first | done | rfl | (simp only [List.length_drop, List.length_take]; rfl)) ?_; (with_reducible refine (spec_NameOk.calls k2 ((rd_T44 l0 x3_2).f1) true _ A15.out).mono ?_); rintro e w' ⟨rfl, ⟨nd, rfl⟩⟩; refine ⟨_, rfl, ?_⟩))
             go_meet
             case rel => exact ⟨_, H', ⟨by have := HJ1.out; have := HK2.out; first | omega | exact Nat.le_refl _⟩, ⟨by (with_reducible repeat (first | refine blk_drewN ?_ _ | refine blk_drew ?_ | refine blk_alloc ?_ _)); exact BK152.out⟩, ⟨by repeat (first | (with_reducible first | exact HB.out | apply below_alloc | apply pw_below_drewN | apply below_drew1 | refine below_set ?_ GE152.out) | exact HB.out)⟩⟩
           ·replace c16 := Bool.eq_false_iff.mpr c16
            subst c16
            have H1 : (some false) = some r := by rw [if_neg (show ¬ (false = true) by decide)] at H; exact H
            clear H
            have H := H1
            clear H1
            obtain rfl := Option.some.inj H
            have hcz20_0 : w12.cell? ⟨gb152, 0, none⟩ = some (.int .i64 ((rd_T44 l0 x3_2).f0)) := (blk_cell BK152.out 0).trans rfl
            have hcz20_1 : w12.cell? ⟨gb152, 1, none⟩ = some (.string ((rd_T44 l0 x3_2).f1)) := (blk_cell BK152.out 1).trans rfl
            have hcz20_2 : w12.cell? ⟨gb152, 2, none⟩ = some (.slice A151_2 ((rd_T44 l0 x3_2).f2).length c151_2) := (blk_cell BK152.out 2).trans rfl
            have hcz20_3 : w12.cell? ⟨gb152, 3, none⟩ = some (.int .i64 ((rd_T44 l0 x3_2).f3)) := (blk_cell BK152.out 3).trans rfl
            have hfz20_0 := blk_frozen BK152.out 0
            have hfz20_1 := blk_frozen BK152.out 1
            have hfz20_2 := blk_frozen BK152.out 2
            have hfz20_3 := blk_frozen BK152.out 3
            go_wp2_with (first | ((with_reducible refine gate_callee (f := 31) rfl ?_); refine goesL_ (some 35) rfl rfl Try.func31 (by kernel_rfl) rfl #[.string ((rd_T44 l0 x3_2).f1)] rfl (by (try simp only [List.map_toArray, List.map_cons, List.map_nil]); first | done | rfl | (simp only [List.length_drop, List.length_take]; rfl)) ?_; (with_reducible refine (spec_NameOk.calls k2 ((rd_T44 l0 x3_2).f1) false _ A15.out).mono ?_); rintro e w' ⟨rfl, ⟨nd, rfl⟩⟩; refine ⟨_, rfl, ?_⟩))
            go_ret
            exact ⟨by first | rfl | (simp only [show ∀ l_ : List UInt8, (l_ != []) = !l_.isEmpty from fun l_ => by cases l_ <;> rfl, show ∀ l_ : List UInt8, (l_ == []) = l_.isEmpty from fun l_ => by cases l_ <;> rfl]; rfl) | (simp [*] <;> rfl), by repeat (first | (with_reducible first | exact HB.out | apply below_alloc | apply pw_below_drewN | apply below_drew1 | refine below_set ?_ GE152.out) | exact HB.out)⟩
          ·rw [if_neg c14] at H
           have c14b0 : (((rd_T44 l0 x3_2).f0) == 1) = false := beq_eq_false_iff_ne.mpr c14
           have c14b1 : (((rd_T44 l0 x3_2).f0) != 1) = true := bne_iff_ne.mpr c14
           (first | rw [c14b0] | (simp only [i64_w, i32_w]; rw [c14b0]) | skip)
           by_cases c21 : ((rd_T44 l0 x3_2).f0) = 4
           ·rw [if_pos c21] at H
            have c21b0 : (((rd_T44 l0 x3_2).f0) == 4) = true := beq_iff_eq.mpr c21
            have c21b1 : (((rd_T44 l0 x3_2).f0) != 4) = false := bne_eq_false_iff_eq.mpr c21
            clear c21
            by_cases c22 : ((rd_T44 l0 x3_2).f1).toList = ([] : List UInt8)
            ·rw [if_pos c22] at H
             have c22b0 : (((rd_T44 l0 x3_2).f1).toList == ([] : List UInt8)) = true := beq_iff_eq.mpr c22
             have c22b1 : (((rd_T44 l0 x3_2).f1).toList != ([] : List UInt8)) = false := bne_eq_false_iff_eq.mpr c22
             have c22b2 : (((rd_T44 l0 x3_2).f1)).toList.isEmpty = true := by (first | exact (List.isEmpty_iff.mpr (eq_of_beq c22b0)) | exact (Bool.eq_false_iff.mpr (fun h_ => by rw [List.isEmpty_iff.mp h_] at c22b0; cases c22b0)))
             clear c22
             by_cases c23 : (((rd_T44 l0 x3_2).f2).length : Int) > 0
             ·rw [if_pos c23] at H
              have c23b0 : decide (0 < (((rd_T44 l0 x3_2).f2).length : Int)) = true := decide_eq_true c23
              have c23b1 : decide (0 < ((rd_T44 l0 x3_2).f2).length) = true := decide_eq_true (by omega)
              clear c23
              obtain rfl := Option.some.inj H
              have hcz24_0 : w12.cell? ⟨gb152, 0, none⟩ = some (.int .i64 ((rd_T44 l0 x3_2).f0)) := (blk_cell BK152.out 0).trans rfl
              have hcz24_1 : w12.cell? ⟨gb152, 1, none⟩ = some (.string ((rd_T44 l0 x3_2).f1)) := (blk_cell BK152.out 1).trans rfl
              have hcz24_2 : w12.cell? ⟨gb152, 2, none⟩ = some (.slice A151_2 ((rd_T44 l0 x3_2).f2).length c151_2) := (blk_cell BK152.out 2).trans rfl
              have hcz24_3 : w12.cell? ⟨gb152, 3, none⟩ = some (.int .i64 ((rd_T44 l0 x3_2).f3)) := (blk_cell BK152.out 3).trans rfl
              have hfz24_0 := blk_frozen BK152.out 0
              have hfz24_1 := blk_frozen BK152.out 1
              have hfz24_2 := blk_frozen BK152.out 2
              have hfz24_3 := blk_frozen BK152.out 3
              go_wp2
              go_ret
              exact ⟨by first | rfl | (simp only [show ∀ l_ : List UInt8, (l_ != []) = !l_.isEmpty from fun l_ => by cases l_ <;> rfl, show ∀ l_ : List UInt8, (l_ == []) = l_.isEmpty from fun l_ => by cases l_ <;> rfl]; rfl) | (simp [*] <;> rfl), by repeat (first | (with_reducible first | exact HB.out | apply below_alloc | apply pw_below_drewN | apply below_drew1 | refine below_set ?_ GE152.out) | exact HB.out)⟩
             ·rw [if_neg c23] at H
              have c23b0 : decide (0 < (((rd_T44 l0 x3_2).f2).length : Int)) = false := decide_eq_false c23
              have c23b1 : decide (0 < ((rd_T44 l0 x3_2).f2).length) = false := decide_eq_false (by omega)
              clear c23
              have H' := Aside0.mk H
              clear H
              have hcz25_0 : w12.cell? ⟨gb152, 0, none⟩ = some (.int .i64 ((rd_T44 l0 x3_2).f0)) := (blk_cell BK152.out 0).trans rfl
              have hcz25_1 : w12.cell? ⟨gb152, 1, none⟩ = some (.string ((rd_T44 l0 x3_2).f1)) := (blk_cell BK152.out 1).trans rfl
              have hcz25_2 : w12.cell? ⟨gb152, 2, none⟩ = some (.slice A151_2 ((rd_T44 l0 x3_2).f2).length c151_2) := (blk_cell BK152.out 2).trans rfl
              have hcz25_3 : w12.cell? ⟨gb152, 3, none⟩ = some (.int .i64 ((rd_T44 l0 x3_2).f3)) := (blk_cell BK152.out 3).trans rfl
              have hfz25_0 := blk_frozen BK152.out 0
              have hfz25_1 := blk_frozen BK152.out 1
              have hfz25_2 := blk_frozen BK152.out 2
              have hfz25_3 := blk_frozen BK152.out 3
              go_wp2
              go_meet
              case rel => exact ⟨_, H', ⟨by have := HJ1.out; have := HK2.out; first | omega | exact Nat.le_refl _⟩, ⟨by (with_reducible repeat (first | refine blk_drewN ?_ _ | refine blk_drew ?_ | refine blk_alloc ?_ _)); exact BK152.out⟩, ⟨by repeat (first | (with_reducible first | exact HB.out | apply below_alloc | apply pw_below_drewN | apply below_drew1 | refine below_set ?_ GE152.out) | exact HB.out)⟩⟩
            ·rw [if_neg c22] at H
             have c22b0 : (((rd_T44 l0 x3_2).f1).toList == ([] : List UInt8)) = false := beq_eq_false_iff_ne.mpr c22
             have c22b1 : (((rd_T44 l0 x3_2).f1).toList != ([] : List UInt8)) = true := bne_iff_ne.mpr c22
             have c22b2 : (((rd_T44 l0 x3_2).f1)).toList.isEmpty = false := by (first | exact (List.isEmpty_iff.mpr (eq_of_beq c22b0)) | exact (Bool.eq_false_iff.mpr (fun h_ => by rw [List.isEmpty_iff.mp h_] at c22b0; cases c22b0)))
             obtain rfl := Option.some.inj H
             have hcz26_0 : w12.cell? ⟨gb152, 0, none⟩ = some (.int .i64 ((rd_T44 l0 x3_2).f0)) := (blk_cell BK152.out 0).trans rfl
             have hcz26_1 : w12.cell? ⟨gb152, 1, none⟩ = some (.string ((rd_T44 l0 x3_2).f1)) := (blk_cell BK152.out 1).trans rfl
             have hcz26_2 : w12.cell? ⟨gb152, 2, none⟩ = some (.slice A151_2 ((rd_T44 l0 x3_2).f2).length c151_2) := (blk_cell BK152.out 2).trans rfl
             have hcz26_3 : w12.cell? ⟨gb152, 3, none⟩ = some (.int .i64 ((rd_T44 l0 x3_2).f3)) := (blk_cell BK152.out 3).trans rfl
             have hfz26_0 := blk_frozen BK152.out 0
             have hfz26_1 := blk_frozen BK152.out 1
             have hfz26_2 := blk_frozen BK152.out 2
             have hfz26_3 := blk_frozen BK152.out 3
             go_wp2
             go_ret
             exact ⟨by first | rfl | (simp only [show ∀ l_ : List UInt8, (l_ != []) = !l_.isEmpty from fun l_ => by cases l_ <;> rfl, show ∀ l_ : List UInt8, (l_ == []) = l_.isEmpty from fun l_ => by cases l_ <;> rfl]; rfl) | (simp [*] <;> rfl), by repeat (first | (with_reducible first | exact HB.out | apply below_alloc | apply pw_below_drewN | apply below_drew1 | refine below_set ?_ GE152.out) | exact HB.out)⟩
           ·rw [if_neg c21] at H
            have c21b0 : (((rd_T44 l0 x3_2).f0) == 4) = false := beq_eq_false_iff_ne.mpr c21
            have c21b1 : (((rd_T44 l0 x3_2).f0) != 4) = true := bne_iff_ne.mpr c21
            by_cases c27 : ((rd_T44 l0 x3_2).f0) = 2
            ·rw [if_pos c27] at H
             have c27b0 : (((rd_T44 l0 x3_2).f0) == 2) = true := beq_iff_eq.mpr c27
             have c27b1 : (((rd_T44 l0 x3_2).f0) != 2) = false := bne_eq_false_iff_eq.mpr c27
             clear c27
             by_cases c28 : ((rd_T44 l0 x3_2).f1).toList = ([] : List UInt8)
             ·rw [if_pos c28] at H
              have c28b0 : (((rd_T44 l0 x3_2).f1).toList == ([] : List UInt8)) = true := beq_iff_eq.mpr c28
              have c28b1 : (((rd_T44 l0 x3_2).f1).toList != ([] : List UInt8)) = false := bne_eq_false_iff_eq.mpr c28
              have c28b2 : (((rd_T44 l0 x3_2).f1)).toList.isEmpty = true := by (first | exact (List.isEmpty_iff.mpr (eq_of_beq c28b0)) | exact (Bool.eq_false_iff.mpr (fun h_ => by rw [List.isEmpty_iff.mp h_] at c28b0; cases c28b0)))
              clear c28
              have H' := Aside0.mk H
              clear H
              have hcz29_0 : w12.cell? ⟨gb152, 0, none⟩ = some (.int .i64 ((rd_T44 l0 x3_2).f0)) := (blk_cell BK152.out 0).trans rfl
              have hcz29_1 : w12.cell? ⟨gb152, 1, none⟩ = some (.string ((rd_T44 l0 x3_2).f1)) := (blk_cell BK152.out 1).trans rfl
              have hcz29_2 : w12.cell? ⟨gb152, 2, none⟩ = some (.slice A151_2 ((rd_T44 l0 x3_2).f2).length c151_2) := (blk_cell BK152.out 2).trans rfl
              have hcz29_3 : w12.cell? ⟨gb152, 3, none⟩ = some (.int .i64 ((rd_T44 l0 x3_2).f3)) := (blk_cell BK152.out 3).trans rfl
              have hfz29_0 := blk_frozen BK152.out 0
              have hfz29_1 := blk_frozen BK152.out 1
              have hfz29_2 := blk_frozen BK152.out 2
              have hfz29_3 := blk_frozen BK152.out 3
              go_wp2
              go_meet
              case rel => exact ⟨_, H', ⟨by have := HJ1.out; have := HK2.out; first | omega | exact Nat.le_refl _⟩, ⟨by (with_reducible repeat (first | refine blk_drewN ?_ _ | refine blk_drew ?_ | refine blk_alloc ?_ _)); exact BK152.out⟩, ⟨by repeat (first | (with_reducible first | exact HB.out | apply below_alloc | apply pw_below_drewN | apply below_drew1 | refine below_set ?_ GE152.out) | exact HB.out)⟩⟩
             ·rw [if_neg c28] at H
              have c28b0 : (((rd_T44 l0 x3_2).f1).toList == ([] : List UInt8)) = false := beq_eq_false_iff_ne.mpr c28
              have c28b1 : (((rd_T44 l0 x3_2).f1).toList != ([] : List UInt8)) = true := bne_iff_ne.mpr c28
              have c28b2 : (((rd_T44 l0 x3_2).f1)).toList.isEmpty = false := by (first | exact (List.isEmpty_iff.mpr (eq_of_beq c28b0)) | exact (Bool.eq_false_iff.mpr (fun h_ => by rw [List.isEmpty_iff.mp h_] at c28b0; cases c28b0)))
              obtain rfl := Option.some.inj H
              have hcz30_0 : w12.cell? ⟨gb152, 0, none⟩ = some (.int .i64 ((rd_T44 l0 x3_2).f0)) := (blk_cell BK152.out 0).trans rfl
              have hcz30_1 : w12.cell? ⟨gb152, 1, none⟩ = some (.string ((rd_T44 l0 x3_2).f1)) := (blk_cell BK152.out 1).trans rfl
              have hcz30_2 : w12.cell? ⟨gb152, 2, none⟩ = some (.slice A151_2 ((rd_T44 l0 x3_2).f2).length c151_2) := (blk_cell BK152.out 2).trans rfl
              have hcz30_3 : w12.cell? ⟨gb152, 3, none⟩ = some (.int .i64 ((rd_T44 l0 x3_2).f3)) := (blk_cell BK152.out 3).trans rfl
              have hfz30_0 := blk_frozen BK152.out 0
              have hfz30_1 := blk_frozen BK152.out 1
              have hfz30_2 := blk_frozen BK152.out 2
              have hfz30_3 := blk_frozen BK152.out 3
              go_wp2
              go_ret
              exact ⟨by first | rfl | (simp only [show ∀ l_ : List UInt8, (l_ != []) = !l_.isEmpty from fun l_ => by cases l_ <;> rfl, show ∀ l_ : List UInt8, (l_ == []) = l_.isEmpty from fun l_ => by cases l_ <;> rfl]; rfl) | (simp [*] <;> rfl), by repeat (first | (with_reducible first | exact HB.out | apply below_alloc | apply pw_below_drewN | apply below_drew1 | refine below_set ?_ GE152.out) | exact HB.out)⟩
            ·rw [if_neg c27] at H
             have c27b0 : (((rd_T44 l0 x3_2).f0) == 2) = false := beq_eq_false_iff_ne.mpr c27
             have c27b1 : (((rd_T44 l0 x3_2).f0) != 2) = true := bne_iff_ne.mpr c27
             by_cases c31 : ((rd_T44 l0 x3_2).f0) = 3
             ·rw [if_pos c31] at H
              have c31b0 : (((rd_T44 l0 x3_2).f0) == 3) = true := beq_iff_eq.mpr c31
              have c31b1 : (((rd_T44 l0 x3_2).f0) != 3) = false := bne_eq_false_iff_eq.mpr c31
              clear c31
              by_cases c32 : ((rd_T44 l0 x3_2).f1).toList = ([] : List UInt8)
              ·rw [if_pos c32] at H
               have c32b0 : (((rd_T44 l0 x3_2).f1).toList == ([] : List UInt8)) = true := beq_iff_eq.mpr c32
               have c32b1 : (((rd_T44 l0 x3_2).f1).toList != ([] : List UInt8)) = false := bne_eq_false_iff_eq.mpr c32
               have c32b2 : (((rd_T44 l0 x3_2).f1)).toList.isEmpty = true := by (first | exact (List.isEmpty_iff.mpr (eq_of_beq c32b0)) | exact (Bool.eq_false_iff.mpr (fun h_ => by rw [List.isEmpty_iff.mp h_] at c32b0; cases c32b0)))
               clear c32
               by_cases c33 : (((rd_T44 l0 x3_2).f2).length : Int) < 2
               ·rw [if_pos c33] at H
                have c33b0 : decide ((((rd_T44 l0 x3_2).f2).length : Int) < 2) = true := decide_eq_true c33
                have c33b1 : decide (((rd_T44 l0 x3_2).f2).length < 2) = true := decide_eq_true (by omega)
                clear c33
                obtain rfl := Option.some.inj H
                have hcz34_0 : w12.cell? ⟨gb152, 0, none⟩ = some (.int .i64 ((rd_T44 l0 x3_2).f0)) := (blk_cell BK152.out 0).trans rfl
                have hcz34_1 : w12.cell? ⟨gb152, 1, none⟩ = some (.string ((rd_T44 l0 x3_2).f1)) := (blk_cell BK152.out 1).trans rfl
                have hcz34_2 : w12.cell? ⟨gb152, 2, none⟩ = some (.slice A151_2 ((rd_T44 l0 x3_2).f2).length c151_2) := (blk_cell BK152.out 2).trans rfl
                have hcz34_3 : w12.cell? ⟨gb152, 3, none⟩ = some (.int .i64 ((rd_T44 l0 x3_2).f3)) := (blk_cell BK152.out 3).trans rfl
                have hfz34_0 := blk_frozen BK152.out 0
                have hfz34_1 := blk_frozen BK152.out 1
                have hfz34_2 := blk_frozen BK152.out 2
                have hfz34_3 := blk_frozen BK152.out 3
                go_wp2
                go_ret
                exact ⟨by first | rfl | (simp only [show ∀ l_ : List UInt8, (l_ != []) = !l_.isEmpty from fun l_ => by cases l_ <;> rfl, show ∀ l_ : List UInt8, (l_ == []) = l_.isEmpty from fun l_ => by cases l_ <;> rfl]; rfl) | (simp [*] <;> rfl), by repeat (first | (with_reducible first | exact HB.out | apply below_alloc | apply pw_below_drewN | apply below_drew1 | refine below_set ?_ GE152.out) | exact HB.out)⟩
               ·rw [if_neg c33] at H
                have c33b0 : decide ((((rd_T44 l0 x3_2).f2).length : Int) < 2) = false := decide_eq_false c33
                have c33b1 : decide (((rd_T44 l0 x3_2).f2).length < 2) = false := decide_eq_false (by omega)
                clear c33
                have H' := Aside0.mk H
                clear H
                have hcz35_0 : w12.cell? ⟨gb152, 0, none⟩ = some (.int .i64 ((rd_T44 l0 x3_2).f0)) := (blk_cell BK152.out 0).trans rfl
                have hcz35_1 : w12.cell? ⟨gb152, 1, none⟩ = some (.string ((rd_T44 l0 x3_2).f1)) := (blk_cell BK152.out 1).trans rfl
                have hcz35_2 : w12.cell? ⟨gb152, 2, none⟩ = some (.slice A151_2 ((rd_T44 l0 x3_2).f2).length c151_2) := (blk_cell BK152.out 2).trans rfl
                have hcz35_3 : w12.cell? ⟨gb152, 3, none⟩ = some (.int .i64 ((rd_T44 l0 x3_2).f3)) := (blk_cell BK152.out 3).trans rfl
                have hfz35_0 := blk_frozen BK152.out 0
                have hfz35_1 := blk_frozen BK152.out 1
                have hfz35_2 := blk_frozen BK152.out 2
                have hfz35_3 := blk_frozen BK152.out 3
                go_wp2
                go_meet
                case rel => exact ⟨_, H', ⟨by have := HJ1.out; have := HK2.out; first | omega | exact Nat.le_refl _⟩, ⟨by (with_reducible repeat (first | refine blk_drewN ?_ _ | refine blk_drew ?_ | refine blk_alloc ?_ _)); exact BK152.out⟩, ⟨by repeat (first | (with_reducible first | exact HB.out | apply below_alloc | apply pw_below_drewN | apply below_drew1 | refine below_set ?_ GE152.out) | exact HB.out)⟩⟩
              ·rw [if_neg c32] at H
               have c32b0 : (((rd_T44 l0 x3_2).f1).toList == ([] : List UInt8)) = false := beq_eq_false_iff_ne.mpr c32
               have c32b1 : (((rd_T44 l0 x3_2).f1).toList != ([] : List UInt8)) = true := bne_iff_ne.mpr c32
               have c32b2 : (((rd_T44 l0 x3_2).f1)).toList.isEmpty = false := by (first | exact (List.isEmpty_iff.mpr (eq_of_beq c32b0)) | exact (Bool.eq_false_iff.mpr (fun h_ => by rw [List.isEmpty_iff.mp h_] at c32b0; cases c32b0)))
               obtain rfl := Option.some.inj H
               have hcz36_0 : w12.cell? ⟨gb152, 0, none⟩ = some (.int .i64 ((rd_T44 l0 x3_2).f0)) := (blk_cell BK152.out 0).trans rfl
               have hcz36_1 : w12.cell? ⟨gb152, 1, none⟩ = some (.string ((rd_T44 l0 x3_2).f1)) := (blk_cell BK152.out 1).trans rfl
               have hcz36_2 : w12.cell? ⟨gb152, 2, none⟩ = some (.slice A151_2 ((rd_T44 l0 x3_2).f2).length c151_2) := (blk_cell BK152.out 2).trans rfl
               have hcz36_3 : w12.cell? ⟨gb152, 3, none⟩ = some (.int .i64 ((rd_T44 l0 x3_2).f3)) := (blk_cell BK152.out 3).trans rfl
               have hfz36_0 := blk_frozen BK152.out 0
               have hfz36_1 := blk_frozen BK152.out 1
               have hfz36_2 := blk_frozen BK152.out 2
               have hfz36_3 := blk_frozen BK152.out 3
               go_wp2
               go_ret
               exact ⟨by first | rfl | (simp only [show ∀ l_ : List UInt8, (l_ != []) = !l_.isEmpty from fun l_ => by cases l_ <;> rfl, show ∀ l_ : List UInt8, (l_ == []) = l_.isEmpty from fun l_ => by cases l_ <;> rfl]; rfl) | (simp [*] <;> rfl), by repeat (first | (with_reducible first | exact HB.out | apply below_alloc | apply pw_below_drewN | apply below_drew1 | refine below_set ?_ GE152.out) | exact HB.out)⟩
             ·rw [if_neg c31] at H
              have c31b0 : (((rd_T44 l0 x3_2).f0) == 3) = false := beq_eq_false_iff_ne.mpr c31
              have c31b1 : (((rd_T44 l0 x3_2).f0) != 3) = true := bne_iff_ne.mpr c31
              obtain rfl := Option.some.inj H
              go_wp2
              go_ret
              exact ⟨by first | rfl | (simp only [show ∀ l_ : List UInt8, (l_ != []) = !l_.isEmpty from fun l_ => by cases l_ <;> rfl, show ∀ l_ : List UInt8, (l_ == []) = l_.isEmpty from fun l_ => by cases l_ <;> rfl]; rfl) | (simp [*] <;> rfl), by repeat (first | (with_reducible first | exact HB.out | apply below_alloc | apply pw_below_drewN | apply below_drew1 | refine below_set ?_ GE152.out) | exact HB.out)⟩
         case rest =>
          clear HC9
          try clear c1
          try clear p1
          try clear q1
          try clear hx1
          try clear c2
          try clear p2
          try clear c3
          try clear c3b0
          try clear c3b1
          try clear c4
          try clear c5
          try clear c5b0
          try clear c6
          try clear c6b0
          try clear c8
          try clear c10
          try clear c14
          try clear c14b0
          try clear c14b1
          try clear c15
          try clear p15
          try clear q15
          try clear hx15
          try clear c16
          try clear c17
          try clear c17b0
          try clear c17b1
          try clear c21
          try clear c21b0
          try clear c21b1
          try clear c22
          try clear c22b0
          try clear c22b1
          try clear c23
          try clear c23b0
          try clear c23b1
          try clear c27
          try clear c27b0
          try clear c27b1
          try clear c28
          try clear c28b0
          try clear c28b1
          try clear c30
          try clear c31
          try clear c31b0
          try clear c31b1
          try clear c32
          try clear c32b0
          try clear c32b1
          try clear c33
          try clear c33b0
          try clear c33b1
          try clear hcz11_0
          try clear hcz11_1
          try clear hcz11_2
          try clear hcz11_3
          try clear hcz13_0
          try clear hcz13_1
          try clear hcz13_2
          try clear hcz13_3
          try clear hcz18_0
          try clear hcz18_1
          try clear hcz18_2
          try clear hcz18_3
          try clear hcz19_0
          try clear hcz19_1
          try clear hcz19_2
          try clear hcz19_3
          try clear hcz20_0
          try clear hcz20_1
          try clear hcz20_2
          try clear hcz20_3
          try clear hcz24_0
          try clear hcz24_1
          try clear hcz24_2
          try clear hcz24_3
          try clear hcz25_0
          try clear hcz25_1
          try clear hcz25_2
          try clear hcz25_3
          try clear hcz26_0
          try clear hcz26_1
          try clear hcz26_2
          try clear hcz26_3
          try clear hcz29_0
          try clear hcz29_1
          try clear hcz29_2
          try clear hcz29_3
          try clear hcz30_0
          try clear hcz30_1
          try clear hcz30_2
          try clear hcz30_3
          try clear hcz34_0
          try clear hcz34_1
          try clear hcz34_2
          try clear hcz34_3
          try clear hcz35_0
          try clear hcz35_1
          try clear hcz35_2
          try clear hcz35_3
          try clear hcz36_0
          try clear hcz36_1
          try clear hcz36_2
          try clear hcz36_3
          try clear hfz11_0
          try clear hfz11_1
          try clear hfz11_2
          try clear hfz11_3
          try clear hfz13_0
          try clear hfz13_1
          try clear hfz13_2
          try clear hfz13_3
          try clear hfz18_0
          try clear hfz18_1
          try clear hfz18_2
          try clear hfz18_3
          try clear hfz19_0
          try clear hfz19_1
          try clear hfz19_2
          try clear hfz19_3
          try clear hfz20_0
          try clear hfz20_1
          try clear hfz20_2
          try clear hfz20_3
          try clear hfz24_0
          try clear hfz24_1
          try clear hfz24_2
          try clear hfz24_3
          try clear hfz25_0
          try clear hfz25_1
          try clear hfz25_2
          try clear hfz25_3
          try clear hfz26_0
          try clear hfz26_1
          try clear hfz26_2
          try clear hfz26_3
          try clear hfz29_0
          try clear hfz29_1
          try clear hfz29_2
          try clear hfz29_3
          try clear hfz30_0
          try clear hfz30_1
          try clear hfz30_2
          try clear hfz30_3
          try clear hfz34_0
          try clear hfz34_1
          try clear hfz34_2
          try clear hfz34_3
          try clear hfz35_0
          try clear hfz35_1
          try clear hfz35_2
          try clear hfz35_3
          try clear hfz36_0
          try clear hfz36_1
          try clear hfz36_2
          try clear hfz36_3
          try clear hx151_0
          try clear hx151_1
          try clear hx151_2
          try clear hx151_3
          try clear p151
          try clear p2
          try clear q151
          obtain ⟨kq, HA, HJ8, BK152, HB⟩ := hcut
          cases kq with
          | zero => exact absurd HA.out (by simp [spec_ParticleOk.j2])
          | succ kj8 =>
           have H := HA.out
           clear HA
           simp only [spec_ParticleOk.j2] at H
           have H' := Aside0.mk H
           clear H
           go_wp2
           go_loopg [5] kj8 (fun kq v5 w' => ∃ (x5_4 : Int), v5 = .int .i64 x5_4 ∧ Aside0 (spec_ParticleOk.l1 kq l0 x3_2 x5_4 ((rd_T44 l0 x3_2).f0) ((rd_T44 l0 x3_2).f1) ((rd_T44 l0 x3_2).f2) ((rd_T44 l0 x3_2).f3) = some r) ∧ Aside0 (kq ≤ kj8) ∧ Aside0 (w'.heap[gb152]? = some (.cells #[.int .i64 ((rd_T44 l0 x3_2).f0), .string ((rd_T44 l0 x3_2).f1), (.slice A151_2 ((rd_T44 l0 x3_2).f2).length c151_2), .int .i64 ((rd_T44 l0 x3_2).f3)] 44 (0, 0))) ∧ Aside0 (Below w.heap.size w w'))
           case atStart => exact ⟨(0), (by first | rfl | (simp; done) | (simp [*]; done)), H', ⟨Nat.le_refl _⟩, ⟨by (with_reducible repeat (first | refine blk_drewN ?_ _ | refine blk_drew ?_ | refine blk_alloc ?_ _)); exact BK152.out⟩, ⟨by repeat (first | (with_reducible first | exact HB.out | apply below_alloc | apply pw_below_drewN | apply below_drew1 | refine below_set ?_ GE152.out) | exact HB.out)⟩⟩
           case round =>
            clear H'
            try clear c1
            try clear p1
            try clear q1
            try clear hx1
            try clear c2
            try clear p2
            try clear c3
            try clear c3b0
            try clear c3b1
            try clear c4
            try clear c5
            try clear c5b0
            try clear c6
            try clear c6b0
            try clear c8
            try clear c10
            try clear c14
            try clear c14b0
            try clear c14b1
            try clear c15
            try clear p15
            try clear q15
            try clear hx15
            try clear c16
            try clear c17
            try clear c17b0
            try clear c17b1
            try clear c21
            try clear c21b0
            try clear c21b1
            try clear c22
            try clear c22b0
            try clear c22b1
            try clear c23
            try clear c23b0
            try clear c23b1
            try clear c27
            try clear c27b0
            try clear c27b1
            try clear c28
            try clear c28b0
            try clear c28b1
            try clear c30
            try clear c31
            try clear c31b0
            try clear c31b1
            try clear c32
            try clear c32b0
            try clear c32b1
            try clear c33
            try clear c33b0
            try clear c33b1
            try clear hcz11_0
            try clear hcz11_1
            try clear hcz11_2
            try clear hcz11_3
            try clear hcz13_0
            try clear hcz13_1
            try clear hcz13_2
            try clear hcz13_3
            try clear hcz18_0
            try clear hcz18_1
            try clear hcz18_2
            try clear hcz18_3
            try clear hcz19_0
            try clear hcz19_1
            try clear hcz19_2
            try clear hcz19_3
            try clear hcz20_0
            try clear hcz20_1
            try clear hcz20_2
            try clear hcz20_3
            try clear hcz24_0
            try clear hcz24_1
            try clear hcz24_2
            try clear hcz24_3
            try clear hcz25_0
            try clear hcz25_1
            try clear hcz25_2
            try clear hcz25_3
            try clear hcz26_0
            try clear hcz26_1
            try clear hcz26_2
            try clear hcz26_3
            try clear hcz29_0
            try clear hcz29_1
            try clear hcz29_2
            try clear hcz29_3
            try clear hcz30_0
            try clear hcz30_1
            try clear hcz30_2
            try clear hcz30_3
            try clear hcz34_0
            try clear hcz34_1
            try clear hcz34_2
            try clear hcz34_3
            try clear hcz35_0
            try clear hcz35_1
            try clear hcz35_2
            try clear hcz35_3
            try clear hcz36_0
            try clear hcz36_1
            try clear hcz36_2
            try clear hcz36_3
            try clear hfz11_0
            try clear hfz11_1
            try clear hfz11_2
            try clear hfz11_3
            try clear hfz13_0
            try clear hfz13_1
            try clear hfz13_2
            try clear hfz13_3
            try clear hfz18_0
            try clear hfz18_1
            try clear hfz18_2
            try clear hfz18_3
            try clear hfz19_0
            try clear hfz19_1
            try clear hfz19_2
            try clear hfz19_3
            try clear hfz20_0
            try clear hfz20_1
            try clear hfz20_2
            try clear hfz20_3
            try clear hfz24_0
            try clear hfz24_1
            try clear hfz24_2
            try clear hfz24_3
            try clear hfz25_0
            try clear hfz25_1
            try clear hfz25_2
            try clear hfz25_3
            try clear hfz26_0
            try clear hfz26_1
            try clear hfz26_2
            try clear hfz26_3
            try clear hfz29_0
            try clear hfz29_1
            try clear hfz29_2
            try clear hfz29_3
            try clear hfz30_0
            try clear hfz30_1
            try clear hfz30_2
            try clear hfz30_3
            try clear hfz34_0
            try clear hfz34_1
            try clear hfz34_2
            try clear hfz34_3
            try clear hfz35_0
            try clear hfz35_1
            try clear hfz35_2
            try clear hfz35_3
            try clear hfz36_0
            try clear hfz36_1
            try clear hfz36_2
            try clear hfz36_3
            try clear hx151_0
            try clear hx151_1
            try clear hx151_2
            try clear hx151_3
            try clear p1
            try clear p15
            try clear p151
            try clear p2
            try clear q1
            try clear q15
            try clear q151
            obtain ⟨x5_4, rfl, HA, HK4, BK152, HB⟩ := hrel
            cases gk with
            | zero => exact absurd HA.out (by simp [spec_ParticleOk.l1])
            | succ k4 =>
             have H := HA.out
             clear HA
             simp only [spec_ParticleOk.l1] at H
             by_cases c37 : x5_4 < (((rd_T44 l0 x3_2).f2).length : Int)
             ·rw [if_pos c37] at H
              have c37b0 : decide (x5_4 < (((rd_T44 l0 x3_2).f2).length : Int)) = true := decide_eq_true c37
              clear c37
              by_cases c38 : 0 ≤ x5_4
              ·rw [if_pos c38] at H
               have c38b0 : decide (0 ≤ x5_4) = true := decide_eq_true c38
               clear c38
               replace H := Option.bind_eq_some_iff.mp H
               obtain ⟨t156, A390, H⟩ := H
               replace H : (if t156 = true then (spec_ParticleOk.l1 k4 l0 x3_2 (wrap64 (x5_4 + 1)) ((rd_T44 l0 x3_2).f0) ((rd_T44 l0 x3_2).f1) ((rd_T44 l0 x3_2).f2) ((rd_T44 l0 x3_2).f3)) else (some false)) = some r := H
               have A39 := Aside0.mk A390
               clear A390
               by_cases c40 : t156 = true
               ·subst c40
                have H1 : (spec_ParticleOk.l1 k4 l0 x3_2 (wrap64 (x5_4 + 1)) ((rd_T44 l0 x3_2).f0) ((rd_T44 l0 x3_2).f1) ((rd_T44 l0 x3_2).f2) ((rd_T44 l0 x3_2).f3)) = some r := by rw [if_pos rfl] at H; exact H
                clear H
                have H := H1
                clear H1
                have H' := Aside0.mk H
                clear H
                have hcz41_0 : wr.cell? ⟨gb152, 0, none⟩ = some (.int .i64 ((rd_T44 l0 x3_2).f0)) := (blk_cell BK152.out 0).trans rfl
                have hcz41_1 : wr.cell? ⟨gb152, 1, none⟩ = some (.string ((rd_T44 l0 x3_2).f1)) := (blk_cell BK152.out 1).trans rfl
                have hcz41_2 : wr.cell? ⟨gb152, 2, none⟩ = some (.slice A151_2 ((rd_T44 l0 x3_2).f2).length c151_2) := (blk_cell BK152.out 2).trans rfl
                have hcz41_3 : wr.cell? ⟨gb152, 3, none⟩ = some (.int .i64 ((rd_T44 l0 x3_2).f3)) := (blk_cell BK152.out 3).trans rfl
                have hfz41_0 := blk_frozen BK152.out 0
                have hfz41_1 := blk_frozen BK152.out 1
                have hfz41_2 := blk_frozen BK152.out 2
                have hfz41_3 := blk_frozen BK152.out 3
                have p155 : 0 ≤ (x5_4 : Int) := of_decide_eq_true (by first | (with_reducible assumption) | assumption)
                have q155 : x5_4 < (((rd_T44 l0 x3_2).f2).length : Int) := of_decide_eq_true (by first | (with_reducible assumption) | assumption)
                obtain ⟨ad155, e155, hx155_0⟩ := Kd.at_int HR151_2.out x5_4 p155 q155
                cases e155
                replace hx155_0 := (HB.out.cell (World.block_lt_of_cell? w _ hx155_0)).trans hx155_0
                replace p155 := eq_true p155
                replace q155 := eq_true q155
                go_wp2_with (first | ((with_reducible refine gate_callee (f := 30) rfl ?_); refine goesL_ (some 84) rfl rfl Try.func30 (by kernel_rfl) rfl #[.int .i64 (rd ((rd_T44 l0 x3_2).f2) x5_4), .int .i64 0, .int .i64 (wrap64 (x3_2 - 1))] rfl (by (try simp only [List.map_toArray, List.map_cons, List.map_nil]); first | done | rfl | (simp only [List.length_drop, List.length_take]; rfl)) ?_; (with_reducible refine (spec_l1In.calls (rd ((rd_T44 l0 x3_2).f2) x5_4) 0 (wrap64 (x3_2 - 1)) true _ A39.out).mono ?_); rintro e w' ⟨rfl, ⟨nd, rfl⟩⟩; refine ⟨_, rfl, ?_⟩))
                go_roundg k4
                case measure => have := HJ1.out; have := HK2.out; have := HJ8.out; have := HK4.out; omega
                case rel => exact ⟨(wrap64 (x5_4 + 1)), (by first | rfl | (simp; done) | (simp [*]; done)), H', ⟨by have := HJ1.out; have := HK2.out; have := HJ8.out; have := HK4.out; omega⟩, ⟨by (with_reducible repeat (first | refine blk_drewN ?_ _ | refine blk_drew ?_ | refine blk_alloc ?_ _)); exact BK152.out⟩, ⟨by repeat (first | (with_reducible first | exact HB.out | apply below_alloc | apply pw_below_drewN | apply below_drew1 | refine below_set ?_ GE152.out) | exact HB.out)⟩⟩
               ·replace c40 := Bool.eq_false_iff.mpr c40
                subst c40
                have H1 : (some false) = some r := by rw [if_neg (show ¬ (false = true) by decide)] at H; exact H
                clear H
                have H := H1
                clear H1
                obtain rfl := Option.some.inj H
                have hcz42_0 : wr.cell? ⟨gb152, 0, none⟩ = some (.int .i64 ((rd_T44 l0 x3_2).f0)) := (blk_cell BK152.out 0).trans rfl
                have hcz42_1 : wr.cell? ⟨gb152, 1, none⟩ = some (.string ((rd_T44 l0 x3_2).f1)) := (blk_cell BK152.out 1).trans rfl
                have hcz42_2 : wr.cell? ⟨gb152, 2, none⟩ = some (.slice A151_2 ((rd_T44 l0 x3_2).f2).length c151_2) := (blk_cell BK152.out 2).trans rfl
                have hcz42_3 : wr.cell? ⟨gb152, 3, none⟩ = some (.int .i64 ((rd_T44 l0 x3_2).f3)) := (blk_cell BK152.out 3).trans rfl
                have hfz42_0 := blk_frozen BK152.out 0
                have hfz42_1 := blk_frozen BK152.out 1
                have hfz42_2 := blk_frozen BK152.out 2
                have hfz42_3 := blk_frozen BK152.out 3
                have p155 : 0 ≤ (x5_4 : Int) := of_decide_eq_true (by first | (with_reducible assumption) | assumption)
                have q155 : x5_4 < (((rd_T44 l0 x3_2).f2).length : Int) := of_decide_eq_true (by first | (with_reducible assumption) | assumption)
                obtain ⟨ad155, e155, hx155_0⟩ := Kd.at_int HR151_2.out x5_4 p155 q155
                cases e155
                replace hx155_0 := (HB.out.cell (World.block_lt_of_cell? w _ hx155_0)).trans hx155_0
                replace p155 := eq_true p155
                replace q155 := eq_true q155
                go_wp2_with (first | ((with_reducible refine gate_callee (f := 30) rfl ?_); refine goesL_ (some 84) rfl rfl Try.func30 (by kernel_rfl) rfl #[.int .i64 (rd ((rd_T44 l0 x3_2).f2) x5_4), .int .i64 0, .int .i64 (wrap64 (x3_2 - 1))] rfl (by (try simp only [List.map_toArray, List.map_cons, List.map_nil]); first | done | rfl | (simp only [List.length_drop, List.length_take]; rfl)) ?_; (with_reducible refine (spec_l1In.calls (rd ((rd_T44 l0 x3_2).f2) x5_4) 0 (wrap64 (x3_2 - 1)) false _ A39.out).mono ?_); rintro e w' ⟨rfl, ⟨nd, rfl⟩⟩; refine ⟨_, rfl, ?_⟩))
                go_ret
                exact ⟨by first | rfl | (simp only [show ∀ l_ : List UInt8, (l_ != []) = !l_.isEmpty from fun l_ => by cases l_ <;> rfl, show ∀ l_ : List UInt8, (l_ == []) = l_.isEmpty from fun l_ => by cases l_ <;> rfl]; rfl) | (simp [*] <;> rfl), by repeat (first | (with_reducible first | exact HB.out | apply below_alloc | apply pw_below_drewN | apply below_drew1 | refine below_set ?_ GE152.out) | exact HB.out)⟩
              ·rw [if_neg c38] at H
               exact absurd H (by simp)
             ·rw [if_neg c37] at H
              have c37b0 : decide (x5_4 < (((rd_T44 l0 x3_2).f2).length : Int)) = false := decide_eq_false c37
              clear c37
              have H' := Aside0.mk H
              clear H
              have hcz43_0 : wr.cell? ⟨gb152, 0, none⟩ = some (.int .i64 ((rd_T44 l0 x3_2).f0)) := (blk_cell BK152.out 0).trans rfl
              have hcz43_1 : wr.cell? ⟨gb152, 1, none⟩ = some (.string ((rd_T44 l0 x3_2).f1)) := (blk_cell BK152.out 1).trans rfl
              have hcz43_2 : wr.cell? ⟨gb152, 2, none⟩ = some (.slice A151_2 ((rd_T44 l0 x3_2).f2).length c151_2) := (blk_cell BK152.out 2).trans rfl
              have hcz43_3 : wr.cell? ⟨gb152, 3, none⟩ = some (.int .i64 ((rd_T44 l0 x3_2).f3)) := (blk_cell BK152.out 3).trans rfl
              have hfz43_0 := blk_frozen BK152.out 0
              have hfz43_1 := blk_frozen BK152.out 1
              have hfz43_2 := blk_frozen BK152.out 2
              have hfz43_3 := blk_frozen BK152.out 3
              go_wp2
              go_roundg k4
              case measure => have := HJ1.out; have := HK2.out; have := HJ8.out; have := HK4.out; omega
              case rel => exact ⟨(wrap64 (x3_2 + 1)), (by first | rfl | (simp; done) | (simp [*]; done)), H', ⟨by have := HJ1.out; have := HK2.out; have := HJ8.out; have := HK4.out; omega⟩, ⟨by repeat (first | (with_reducible first | exact HB.out | apply below_alloc | apply pw_below_drewN | apply below_drew1 | refine below_set ?_ GE152.out) | exact HB.out)⟩⟩
        ·replace c8 := Bool.eq_false_iff.mpr c8
         subst c8
         have H1 : (some false) = some r := by rw [if_neg (show ¬ (false = true) by decide)] at H; exact H
         clear H
         have H := H1
         clear H1
         obtain rfl := Option.some.inj H
         have p151 : 0 ≤ (x3_2 : Int) := of_decide_eq_true (by first | (with_reducible assumption) | assumption)
         have q151 : x3_2 < (l0.length : Int) := of_decide_eq_true (by first | (with_reducible assumption) | assumption)
         obtain ⟨ad151, A151_2, c151_2, e151, hx151_0, hx151_1, hx151_2, hx151_3, hl151_2, hi151_2⟩ := at_T44 HR0.out x3_2 p151 q151
         cases e151
         replace hx151_0 := (HB.out.cell (World.block_lt_of_cell? w _ hx151_0)).trans hx151_0
         replace hx151_1 := (HB.out.cell (World.block_lt_of_cell? w _ hx151_1)).trans hx151_1
         replace hx151_2 := (HB.out.cell (World.block_lt_of_cell? w _ hx151_2)).trans hx151_2
         replace hx151_3 := (HB.out.cell (World.block_lt_of_cell? w _ hx151_3)).trans hx151_3
         have HR151_2 := Aside0.mk hi151_2
         have HC151_2 := Aside0.mk hl151_2
         clear hi151_2 hl151_2
         replace p151 := eq_true p151
         replace q151 := eq_true q151
         go_wp2_with (first | ((with_reducible refine gate_dst (N := 4) rfl ?_); (try (refine gate_guard (by rfl) ?_; dsimp only)); refine box_event ?hg (N := 4) ?hd (cs := #[.int .i64 0, .string (⟨#[]⟩ : ByteArray), .slice none 0 0, .int .i64 0]) (t := 44) ?hr ?_; (case hd => rfl); (case hg => rfl); (case hr => first | (go_simp; done) | (go_simp; rfl)); intro gb152 hg w44 hbox hb; have n0_ := Aside0.mk (below_step (by repeat (first | (with_reducible first | exact HB.out | apply below_alloc | apply pw_below_drewN | apply below_drew1) | exact HB.out)) hb); have n1_ := Aside0.mk (hbox); have n2_ := Aside0.mk ((by rw [hg]; exact (below_size (by repeat (first | (with_reducible first | exact HB.out | apply below_alloc | apply pw_below_drewN | apply below_drew1) | exact HB.out))) : w.heap.size ≤ gb152)); have n3_ := Aside0.mk ((by rw [hg]; exact (below_size (by repeat (first | (with_reducible first | exact HB.out | apply below_alloc | apply pw_below_drewN | apply below_drew1) | exact HB.out))) : w.heap.size ≤ gb152)); clear HB; have HB := n0_; have BK152 := n1_; have GW152 := n2_; have GE152 := n3_; clear n0_ n1_ n2_ n3_; clear hb hbox hg; have hcz45_0 : w44.cell? ⟨gb152, 0, none⟩ = some (.int .i64 0) := (blk_cell BK152.out 0).trans rfl; have hcz45_1 : w44.cell? ⟨gb152, 1, none⟩ = some (.string (⟨#[]⟩ : ByteArray)) := (blk_cell BK152.out 1).trans rfl; have hcz45_2 : w44.cell? ⟨gb152, 2, none⟩ = some (.slice none 0 0) := (blk_cell BK152.out 2).trans rfl; have hcz45_3 : w44.cell? ⟨gb152, 3, none⟩ = some (.int .i64 0) := (blk_cell BK152.out 3).trans rfl; have hfz45_0 := blk_frozen BK152.out 0; have hfz45_1 := blk_frozen BK152.out 1; have hfz45_2 := blk_frozen BK152.out 2; have hfz45_3 := blk_frozen BK152.out 3) | ((with_reducible refine gate_store (t := 44) (p := 4) rfl ?_); refine store_event (t := 44) (p := 4) (v := ?vo_w46) (w1 := ((((w44.setCell ⟨gb152, 0, none⟩ (.int .i64 ((rd_T44 l0 x3_2).f0))).setCell ⟨gb152, 1, none⟩ (.string ((rd_T44 l0 x3_2).f1))).setCell ⟨gb152, 2, none⟩ (.slice A151_2 ((rd_T44 l0 x3_2).f2).length c151_2)).setCell ⟨gb152, 3, none⟩ (.int .i64 ((rd_T44 l0 x3_2).f3)))) ?hg ?ho ?hn ?hr ?_; (case ho => rfl); (case hg => rfl); (case hn => rfl); (case hr => first | (go_simp; done) | (go_simp; rfl)); intro w46 hw; have n0_ : Aside0 (w46.heap[gb152]? = some (.cells #[.int .i64 ((rd_T44 l0 x3_2).f0), .string ((rd_T44 l0 x3_2).f1), .slice A151_2 ((rd_T44 l0 x3_2).f2).length c151_2, .int .i64 ((rd_T44 l0 x3_2).f3)] 44 (0, 0))) := ⟨(by rw [hw]; exact (by (with_reducible repeat (first | refine blk_drewN ?_ _ | refine blk_drew ?_ | refine blk_alloc ?_ _)); refine blk_put (cs := #[.int .i64 ((rd_T44 l0 x3_2).f0), .string ((rd_T44 l0 x3_2).f1), .slice A151_2 ((rd_T44 l0 x3_2).f2).length c151_2, .int .i64 0]) ?_ 3 _ rfl; (with_reducible repeat (first | refine blk_drewN ?_ _ | refine blk_drew ?_ | refine blk_alloc ?_ _)); refine blk_put (cs := #[.int .i64 ((rd_T44 l0 x3_2).f0), .string ((rd_T44 l0 x3_2).f1), .slice none 0 0, .int .i64 0]) ?_ 2 _ rfl; (with_reducible repeat (first | refine blk_drewN ?_ _ | refine blk_drew ?_ | refine blk_alloc ?_ _)); refine blk_put (cs := #[.int .i64 ((rd_T44 l0 x3_2).f0), .string (⟨#[]⟩ : ByteArray), .slice none 0 0, .int .i64 0]) ?_ 1 _ rfl; (with_reducible repeat (first | refine blk_drewN ?_ _ | refine blk_drew ?_ | refine blk_alloc ?_ _)); refine blk_put (cs := #[.int .i64 0, .string (⟨#[]⟩ : ByteArray), .slice none 0 0, .int .i64 0]) ?_ 0 _ rfl; (with_reducible repeat (first | refine blk_drewN ?_ _ | refine blk_drew ?_ | refine blk_alloc ?_ _)); exact BK152.out))⟩; have n1_ : Aside0 (Below w.heap.size w w46) := ⟨(by rw [hw]; exact (by repeat (first | (with_reducible first | exact HB.out | apply below_alloc | apply pw_below_drewN | apply below_drew1 | refine below_set ?_ GE152.out) | exact HB.out)))⟩; clear hw; clear BK152; clear HB; have BK152 := n0_; have HB := n1_; clear n0_ n1_; have hcz47_0 : w46.cell? ⟨gb152, 0, none⟩ = some (.int .i64 ((rd_T44 l0 x3_2).f0)) := (blk_cell BK152.out 0).trans rfl; have hcz47_1 : w46.cell? ⟨gb152, 1, none⟩ = some (.string ((rd_T44 l0 x3_2).f1)) := (blk_cell BK152.out 1).trans rfl; have hcz47_2 : w46.cell? ⟨gb152, 2, none⟩ = some (.slice A151_2 ((rd_T44 l0 x3_2).f2).length c151_2) := (blk_cell BK152.out 2).trans rfl; have hcz47_3 : w46.cell? ⟨gb152, 3, none⟩ = some (.int .i64 ((rd_T44 l0 x3_2).f3)) := (blk_cell BK152.out 3).trans rfl; have hfz47_0 := blk_frozen BK152.out 0; have hfz47_1 := blk_frozen BK152.out 1; have hfz47_2 := blk_frozen BK152.out 2; have hfz47_3 := blk_frozen BK152.out 3) | ((with_reducible refine gate_callee (f := 30) rfl ?_); refine goesL_ (some 27) rfl rfl Try.func30 (by kernel_rfl) rfl #[.int .i64 ((rd_T44 l0 x3_2).f3), .int .i64 0, .int .i64 3] rfl (by (try simp only [List.map_toArray, List.map_cons, List.map_nil]); first | done | rfl | (simp only [List.length_drop, List.length_take]; rfl)) ?_; (with_reducible refine (spec_l1In.calls ((rd_T44 l0 x3_2).f3) 0 3 false _ A7.out).mono ?_); rintro e w' ⟨rfl, ⟨nd, rfl⟩⟩; refine ⟨_, rfl, ?_⟩))
         go_ret
         exact ⟨by first | rfl | (simp only [show ∀ l_ : List UInt8, (l_ != []) = !l_.isEmpty from fun l_ => by cases l_ <;> rfl, show ∀ l_ : List UInt8, (l_ == []) = l_.isEmpty from fun l_ => by cases l_ <;> rfl]; rfl) | (simp [*] <;> rfl), by repeat (first | (with_reducible first | exact HB.out | apply below_alloc | apply pw_below_drewN | apply below_drew1 | refine below_set ?_ GE152.out) | exact HB.out)⟩
       ·rw [if_neg c6] at H
        exact absurd H (by simp)
      ·rw [if_neg c5] at H
       have c5b0 : decide (x3_2 < (l0.length : Int)) = false := decide_eq_false c5
       clear c5
       replace H := Option.bind_eq_some_iff.mp H
       obtain ⟨t147, A480, H⟩ := H
       replace H : (if t147 = 0 then (if 0 ≤ (wrap64 ((l0.length : Int) - 1)) then (if (wrap64 ((l0.length : Int) - 1)) < (l0.length : Int) then (if ((rd_T44 l0 (wrap64 ((l0.length : Int) - 1))).f0) = 1 then (some false) else (if ((rd_T44 l0 (wrap64 ((l0.length : Int) - 1))).f0) = 4 then (some false) else ((spec_l8Deep.f k2 l0 (wrap64 ((l0.length : Int) - 1))).bind fun t150 => (some (decide (t150 ≤ 10)))))) else (none)) else (none)) else (some false)) = some r := H
       have A48 := Aside0.mk A480
       clear A480
       by_cases c49 : t147 = 0
       ·rw [if_pos c49] at H
        have c49b0 : (t147 == 0) = true := beq_iff_eq.mpr c49
        have c49b1 : (t147 != 0) = false := bne_eq_false_iff_eq.mpr c49
        clear c49
        obtain ⟨ji50, hji50⟩ : ∃ j_ : Int, (wrap64 ((l0.length : Int) - 1)) = j_ := ⟨_, rfl⟩
        replace H : (if 0 ≤ (ji50) then (if (ji50) < (l0.length : Int) then (if ((rd_T44 l0 (ji50)).f0) = 1 then (some false) else (if ((rd_T44 l0 (ji50)).f0) = 4 then (some false) else ((spec_l8Deep.f k2 l0 (ji50)).bind fun t150 => (some (decide (t150 ≤ 10)))))) else (none)) else (none)) = some r := by first | (rw [hji50] at H; exact H) | (simp only [hji50] at H ⊢; exact H)
        (try rw [hji50] at A48)
        have hji50w : (IntKind.i64.wrap ((l0.length : Int) - 1)) = ji50 := (i64_w _).trans hji50
        by_cases c51 : 0 ≤ (ji50)
        ·rw [if_pos c51] at H
         have c51b0 : decide (0 ≤ (ji50)) = true := decide_eq_true c51
         clear c51
         by_cases c52 : (ji50) < (l0.length : Int)
         ·rw [if_pos c52] at H
          have c52b0 : decide ((ji50) < (l0.length : Int)) = true := decide_eq_true c52
          clear c52
          by_cases c53 : ((rd_T44 l0 (ji50)).f0) = 1
          ·rw [if_pos c53] at H
           have c53b0 : (((rd_T44 l0 (ji50)).f0) == 1) = true := beq_iff_eq.mpr c53
           have c53b1 : (((rd_T44 l0 (ji50)).f0) != 1) = false := bne_eq_false_iff_eq.mpr c53
           clear c53
           obtain rfl := Option.some.inj H
           go_wp2_with (first | ((with_reducible refine gate_callee (f := 32) rfl ?_); refine goesL_ (some 91) rfl rfl Try.func32 (by kernel_rfl) rfl #[.slice A0 l0.length c0, .int .i64 ji50] rfl (by (try simp only [List.map_toArray, List.map_cons, List.map_nil]); first | done | (simp only [hji50]; rfl) | rfl | (simp only [List.length_drop, List.length_take]; rfl)) ?_; (with_reducible refine (spec_l8Tree.calls k2 _ _ l0 ji50 t147 _ ?side1 ?side2 A48.out).mono ?_); (case side1 => repeat (first | exact (Kd.C_below HR0.out HB.out) | (with_reducible refine Kd.C_alloc ?_ _) | (with_reducible refine Kd.C_drewN ?_ _) | (with_reducible refine Kd.C_drew ?_))); (case side2 => exact HC0.out); rintro e w' ⟨rfl, ⟨nd, rfl⟩⟩; refine ⟨_, rfl, ?_⟩; have p148 : 0 ≤ ((ji50) : Int) := of_decide_eq_true (by first | (with_reducible assumption) | assumption); have q148 : (ji50) < (l0.length : Int) := of_decide_eq_true (by first | (with_reducible assumption) | assumption); obtain ⟨ad148, A148_2, c148_2, e148, hx148_0, hx148_1, hx148_2, hx148_3, hl148_2, hi148_2⟩ := at_T44 HR0.out (ji50) p148 q148; cases e148; replace hx148_0 := (HB.out.cell (World.block_lt_of_cell? w _ hx148_0)).trans hx148_0; replace hx148_1 := (HB.out.cell (World.block_lt_of_cell? w _ hx148_1)).trans hx148_1; replace hx148_2 := (HB.out.cell (World.block_lt_of_cell? w _ hx148_2)).trans hx148_2; replace hx148_3 := (HB.out.cell (World.block_lt_of_cell? w _ hx148_3)).trans hx148_3; have HR148_2 := Aside0.mk hi148_2; have HC148_2 := Aside0.mk hl148_2; clear hi148_2 hl148_2; replace p148 := eq_true p148; replace q148 := eq_true q148))
           go_ret
           exact ⟨by first | rfl | (simp only [show ∀ l_ : List UInt8, (l_ != []) = !l_.isEmpty from fun l_ => by cases l_ <;> rfl, show ∀ l_ : List UInt8, (l_ == []) = l_.isEmpty from fun l_ => by cases l_ <;> rfl]; rfl) | (simp [errW_none, errW_some] <;> rfl) | (simp only [← hji50]; first | rfl | (simp [errW_none, errW_some] <;> rfl)) | (simp [*, errW_none, errW_some] <;> rfl), by repeat (first | (with_reducible first | exact HB.out | apply below_alloc | apply pw_below_drewN | apply below_drew1) | exact HB.out)⟩
          ·rw [if_neg c53] at H
           have c53b0 : (((rd_T44 l0 (ji50)).f0) == 1) = false := beq_eq_false_iff_ne.mpr c53
           have c53b1 : (((rd_T44 l0 (ji50)).f0) != 1) = true := bne_iff_ne.mpr c53
           by_cases c54 : ((rd_T44 l0 (ji50)).f0) = 4
           ·rw [if_pos c54] at H
            have c54b0 : (((rd_T44 l0 (ji50)).f0) == 4) = true := beq_iff_eq.mpr c54
            have c54b1 : (((rd_T44 l0 (ji50)).f0) != 4) = false := bne_eq_false_iff_eq.mpr c54
            clear c54
            obtain rfl := Option.some.inj H
            go_wp2_with (first | ((with_reducible refine gate_callee (f := 32) rfl ?_); refine goesL_ (some 91) rfl rfl Try.func32 (by kernel_rfl) rfl #[.slice A0 l0.length c0, .int .i64 ji50] rfl (by (try simp only [List.map_toArray, List.map_cons, List.map_nil]); first | done | (simp only [hji50]; rfl) | rfl | (simp only [List.length_drop, List.length_take]; rfl)) ?_; (with_reducible refine (spec_l8Tree.calls k2 _ _ l0 ji50 t147 _ ?side1 ?side2 A48.out).mono ?_); (case side1 => repeat (first | exact (Kd.C_below HR0.out HB.out) | (with_reducible refine Kd.C_alloc ?_ _) | (with_reducible refine Kd.C_drewN ?_ _) | (with_reducible refine Kd.C_drew ?_))); (case side2 => exact HC0.out); rintro e w' ⟨rfl, ⟨nd, rfl⟩⟩; refine ⟨_, rfl, ?_⟩; have p148 : 0 ≤ ((ji50) : Int) := of_decide_eq_true (by first | (with_reducible assumption) | assumption); have q148 : (ji50) < (l0.length : Int) := of_decide_eq_true (by first | (with_reducible assumption) | assumption); obtain ⟨ad148, A148_2, c148_2, e148, hx148_0, hx148_1, hx148_2, hx148_3, hl148_2, hi148_2⟩ := at_T44 HR0.out (ji50) p148 q148; cases e148; replace hx148_0 := (HB.out.cell (World.block_lt_of_cell? w _ hx148_0)).trans hx148_0; replace hx148_1 := (HB.out.cell (World.block_lt_of_cell? w _ hx148_1)).trans hx148_1; replace hx148_2 := (HB.out.cell (World.block_lt_of_cell? w _ hx148_2)).trans hx148_2; replace hx148_3 := (HB.out.cell (World.block_lt_of_cell? w _ hx148_3)).trans hx148_3; have HR148_2 := Aside0.mk hi148_2; have HC148_2 := Aside0.mk hl148_2; clear hi148_2 hl148_2; replace p148 := eq_true p148; replace q148 := eq_true q148; have p149 : 0 ≤ ((ji50) : Int) := of_decide_eq_true (by first | (with_reducible assumption) | assumption); have q149 : (ji50) < (l0.length : Int) := of_decide_eq_true (by first | (with_reducible assumption) | assumption); obtain ⟨ad149, A149_2, c149_2, e149, hx149_0, hx149_1, hx149_2, hx149_3, hl149_2, hi149_2⟩ := at_T44 HR0.out (ji50) p149 q149; obtain rfl : ad148 = ad149 := (by injection e149); replace hx149_0 := (HB.out.cell (World.block_lt_of_cell? w _ hx149_0)).trans hx149_0; replace hx149_1 := (HB.out.cell (World.block_lt_of_cell? w _ hx149_1)).trans hx149_1; replace hx149_2 := (HB.out.cell (World.block_lt_of_cell? w _ hx149_2)).trans hx149_2; replace hx149_3 := (HB.out.cell (World.block_lt_of_cell? w _ hx149_3)).trans hx149_3; have HR149_2 := Aside0.mk hi149_2; have HC149_2 := Aside0.mk hl149_2; clear hi149_2 hl149_2; replace p149 := eq_true p149; replace q149 := eq_true q149; have ea_ := Option.some.inj (hx148_2.symm.trans hx149_2); injection ea_ with ea_ en_ ec_; subst ea_; subst ec_; clear en_))
            go_ret
            exact ⟨by first | rfl | (simp only [show ∀ l_ : List UInt8, (l_ != []) = !l_.isEmpty from fun l_ => by cases l_ <;> rfl, show ∀ l_ : List UInt8, (l_ == []) = l_.isEmpty from fun l_ => by cases l_ <;> rfl]; rfl) | (simp [errW_none, errW_some] <;> rfl) | (simp only [← hji50]; first | rfl | (simp [errW_none, errW_some] <;> rfl)) | (simp [*, errW_none, errW_some] <;> rfl), by repeat (first | (with_reducible first | exact HB.out | apply below_alloc | apply pw_below_drewN | apply below_drew1) | exact HB.out)⟩
           ·rw [if_neg c54] at H
            have c54b0 : (((rd_T44 l0 (ji50)).f0) == 4) = false := beq_eq_false_iff_ne.mpr c54
            have c54b1 : (((rd_T44 l0 (ji50)).f0) != 4) = true := bne_iff_ne.mpr c54
            replace H := Option.bind_eq_some_iff.mp H
            obtain ⟨t150, A550, H⟩ := H
            replace H : (some (decide (t150 ≤ 10))) = some r := H
            have A55 := Aside0.mk A550
            clear A550
            obtain rfl := Option.some.inj H
            go_wp2_with (first | ((with_reducible refine gate_callee (f := 32) rfl ?_); refine goesL_ (some 91) rfl rfl Try.func32 (by kernel_rfl) rfl #[.slice A0 l0.length c0, .int .i64 ji50] rfl (by (try simp only [List.map_toArray, List.map_cons, List.map_nil]); first | done | (simp only [hji50]; rfl) | rfl | (simp only [List.length_drop, List.length_take]; rfl)) ?_; (with_reducible refine (spec_l8Tree.calls k2 _ _ l0 ji50 t147 _ ?side1 ?side2 A48.out).mono ?_); (case side1 => repeat (first | exact (Kd.C_below HR0.out HB.out) | (with_reducible refine Kd.C_alloc ?_ _) | (with_reducible refine Kd.C_drewN ?_ _) | (with_reducible refine Kd.C_drew ?_))); (case side2 => exact HC0.out); rintro e w' ⟨rfl, ⟨nd, rfl⟩⟩; refine ⟨_, rfl, ?_⟩; have p148 : 0 ≤ ((ji50) : Int) := of_decide_eq_true (by first | (with_reducible assumption) | assumption); have q148 : (ji50) < (l0.length : Int) := of_decide_eq_true (by first | (with_reducible assumption) | assumption); obtain ⟨ad148, A148_2, c148_2, e148, hx148_0, hx148_1, hx148_2, hx148_3, hl148_2, hi148_2⟩ := at_T44 HR0.out (ji50) p148 q148; cases e148; replace hx148_0 := (HB.out.cell (World.block_lt_of_cell? w _ hx148_0)).trans hx148_0; replace hx148_1 := (HB.out.cell (World.block_lt_of_cell? w _ hx148_1)).trans hx148_1; replace hx148_2 := (HB.out.cell (World.block_lt_of_cell? w _ hx148_2)).trans hx148_2; replace hx148_3 := (HB.out.cell (World.block_lt_of_cell? w _ hx148_3)).trans hx148_3; have HR148_2 := Aside0.mk hi148_2; have HC148_2 := Aside0.mk hl148_2; clear hi148_2 hl148_2; replace p148 := eq_true p148; replace q148 := eq_true q148; have p149 : 0 ≤ ((ji50) : Int) := of_decide_eq_true (by first | (with_reducible assumption) | assumption); have q149 : (ji50) < (l0.length : Int) := of_decide_eq_true (by first | (with_reducible assumption) | assumption); obtain ⟨ad149, A149_2, c149_2, e149, hx149_0, hx149_1, hx149_2, hx149_3, hl149_2, hi149_2⟩ := at_T44 HR0.out (ji50) p149 q149; obtain rfl : ad148 = ad149 := (by injection e149); replace hx149_0 := (HB.out.cell (World.block_lt_of_cell? w _ hx149_0)).trans hx149_0; replace hx149_1 := (HB.out.cell (World.block_lt_of_cell? w _ hx149_1)).trans hx149_1; replace hx149_2 := (HB.out.cell (World.block_lt_of_cell? w _ hx149_2)).trans hx149_2; replace hx149_3 := (HB.out.cell (World.block_lt_of_cell? w _ hx149_3)).trans hx149_3; have HR149_2 := Aside0.mk hi149_2; have HC149_2 := Aside0.mk hl149_2; clear hi149_2 hl149_2; replace p149 := eq_true p149; replace q149 := eq_true q149; have ea_ := Option.some.inj (hx148_2.symm.trans hx149_2); injection ea_ with ea_ en_ ec_; subst ea_; subst ec_; clear en_) | (go_at_call 33; (with_reducible refine (spec_l8Deep.calls k2 _ _ l0 ji50 t150 _ ?side1 ?side2 A55.out).mono ?_); (case side1 => repeat (first | exact (Kd.C_below HR0.out (by repeat (first | (with_reducible first | exact HB.out | apply below_alloc | apply pw_below_drewN | apply below_drew1) | exact HB.out))) | (with_reducible refine Kd.C_alloc ?_ _) | (with_reducible refine Kd.C_drewN ?_ _) | (with_reducible refine Kd.C_drew ?_))); (case side2 => exact HC0.out); rintro e w56 ⟨rfl, hb⟩; have n0_ := Aside0.mk (below_step (by repeat (first | (with_reducible first | exact HB.out | apply below_alloc | apply pw_below_drewN | apply below_drew1) | exact HB.out)) hb); clear HB; have HB := n0_; clear n0_; (try clear hb); (try clear hb2); (try clear hk); (try clear hi)))
            go_ret
            exact ⟨by first | rfl | (simp only [show ∀ l_ : List UInt8, (l_ != []) = !l_.isEmpty from fun l_ => by cases l_ <;> rfl, show ∀ l_ : List UInt8, (l_ == []) = l_.isEmpty from fun l_ => by cases l_ <;> rfl]; rfl) | (simp [errW_none, errW_some] <;> rfl) | (simp only [← hji50]; first | rfl | (simp [errW_none, errW_some] <;> rfl)) | (simp [*, errW_none, errW_some] <;> rfl), by repeat (first | (with_reducible first | exact HB.out | apply below_alloc | apply pw_below_drewN | apply below_drew1) | exact HB.out)⟩
         ·rw [if_neg c52] at H
          exact absurd H (by simp)
        ·rw [if_neg c51] at H
         exact absurd H (by simp)
       ·rw [if_neg c49] at H
        have c49b0 : (t147 == 0) = false := beq_eq_false_iff_ne.mpr c49
        have c49b1 : (t147 != 0) = true := bne_iff_ne.mpr c49
        obtain rfl := Option.some.inj H
        go_wp2_with (first | ((with_reducible refine gate_callee (f := 32) rfl ?_); refine goesL_ (some 91) rfl rfl Try.func32 (by kernel_rfl) rfl #[.slice A0 l0.length c0, .int .i64 (wrap64 ((l0.length : Int) - 1))] rfl (by (try simp only [List.map_toArray, List.map_cons, List.map_nil]); first | done | rfl | (simp only [List.length_drop, List.length_take]; rfl)) ?_; (with_reducible refine (spec_l8Tree.calls k2 _ _ l0 (wrap64 ((l0.length : Int) - 1)) t147 _ ?side1 ?side2 A48.out).mono ?_); (case side1 => repeat (first | exact (Kd.C_below HR0.out HB.out) | (with_reducible refine Kd.C_alloc ?_ _) | (with_reducible refine Kd.C_drewN ?_ _) | (with_reducible refine Kd.C_drew ?_))); (case side2 => exact HC0.out); rintro e w' ⟨rfl, ⟨nd, rfl⟩⟩; refine ⟨_, rfl, ?_⟩))
        go_ret
        exact ⟨by first | rfl | (simp only [show ∀ l_ : List UInt8, (l_ != []) = !l_.isEmpty from fun l_ => by cases l_ <;> rfl, show ∀ l_ : List UInt8, (l_ == []) = l_.isEmpty from fun l_ => by cases l_ <;> rfl]; rfl) | (simp [*] <;> rfl), by repeat (first | (with_reducible first | exact HB.out | apply below_alloc | apply pw_below_drewN | apply below_drew1) | exact HB.out)⟩

end Go.Proofs.Ytaliphegdclkfaa.PL
