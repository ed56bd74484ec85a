-- Printed by this session's pdrive.py over the kit's printer.
import Derived.Test.YtbhklkpjjpkblaaDoorPUx0
import Derived.Test.YtbhklkpjjpkblaaDoorPUx1
import Derived.Test.YtbhklkpjjpkblaaDoorPUx2
namespace Go.Proofs.YtbhklkpjjpkblaaDoor.PU
open Go.RowKit Go.Proofs.YtbhklkpjjpkblaaDoorW.PrintWords Go.Proofs.YtbhklkpjjpkblaaDoorW.PrintLast Go.Proofs.YtbhklkpjjpkblaaDoorW.PrintMore Go.Proofs.YtbhklkpjjpkblaaDoorW.WordsB Go.Proofs.YtbhklkpjjpkblaaDoorW.GlM
attribute [local go_sem] max2_int min2_int max_two min_two max_three min_three max_four min_four   -- for this text's walks alone
set_option linter.unusedVariables false
set_option linter.unusedSimpArgs false

/-! ### spec_l2Ref: function 38 -/
mutual
def spec_l2Ref.j1 : Nat → ByteArray → Int → Option (ByteArray × Int)
 | 0, _, _ => none
 | k + 1, x0, x4 => if x4 = (x0.size : Int) then (spec_l2Ref.j2 k x0 x4 true) else (spec_l2Ref.j2 k x0 x4 (decide (x4 > 8)))
def spec_l2Ref.j2 : Nat → ByteArray → Int → Bool → Option (ByteArray × Int)
 | 0, _, _, _ => none
 | k + 1, x0, x4, x27 => if x27 = true then (some ((⟨#[]⟩ : ByteArray), 0)) else (if 0 ≤ x4 then (if x4 ≤ (x0.size : Int) then (if (x0.extract 0 (x4 : Int).toNat).toList = ([97, 109, 112] : List UInt8) then (some ((⟨#[38]⟩ : ByteArray), wrap64 (x4 + 1))) else (if (x0.extract 0 (x4 : Int).toNat).toList = ([108, 116] : List UInt8) then (some ((⟨#[60]⟩ : ByteArray), wrap64 (x4 + 1))) else (if (x0.extract 0 (x4 : Int).toNat).toList = ([103, 116] : List UInt8) then (some ((⟨#[62]⟩ : ByteArray), wrap64 (x4 + 1))) else (if (x0.extract 0 (x4 : Int).toNat).toList = ([113, 117, 111, 116] : List UInt8) then (some ((⟨#[34]⟩ : ByteArray), wrap64 (x4 + 1))) else (if (x0.extract 0 (x4 : Int).toNat).toList = ([97, 112, 111, 115] : List UInt8) then (some ((⟨#[39]⟩ : ByteArray), wrap64 (x4 + 1))) else (if ((x0.extract 0 (x4 : Int).toNat).size : Int) < 2 then (spec_l2Ref.j3 k x4 (x0.extract 0 (x4 : Int).toNat) true) else (if 0 < ((x0.extract 0 (x4 : Int).toNat).size : Int) then (spec_l2Ref.j3 k x4 (x0.extract 0 (x4 : Int).toNat) ((bt (x0.extract 0 (x4 : Int).toNat) 0) != 35)) else (none)))))))) else (none)) else (none))
def spec_l2Ref.j3 : Nat → Int → ByteArray → Bool → Option (ByteArray × Int)
 | 0, _, _, _ => none
 | k + 1, x4, x5, x59 => if x59 = true then (some ((⟨#[]⟩ : ByteArray), 0)) else (spec_l2Ref.l1 k x4 x5 0 1)
def spec_l2Ref.l1 : Nat → Int → ByteArray → Int → Int → Option (ByteArray × Int)
 | 0, _, _, _, _ => none
 | k + 1, x4, x5, x6, x7 => if x7 < (x5.size : Int) then (if 0 ≤ x7 then ((spec_l1Digit.f (bt x5 x7)).bind fun t133 => (if t133 = true then (spec_l2Ref.l1 k x4 x5 (wrap64 ((wrap64 (x6 * 10)) + (((bt x5 x7) - 48) % 256))) (wrap64 (x7 + 1))) else (some ((⟨#[]⟩ : ByteArray), 0)))) else (none)) else ((spec_CharOk.f x6).bind fun t134 => (if t134 = true then ((spec_l1Bytes.f x6).bind fun t135 => (some (t135, wrap64 (x4 + 1)))) else (some ((⟨#[]⟩ : ByteArray), 0))))
def spec_l2Ref.l0 : Nat → ByteArray → Int → Option (ByteArray × Int)
 | 0, _, _ => none
 | k + 1, x0, x4 => if x4 < (x0.size : Int) then (if 0 ≤ x4 then (if (bt x0 x4) = 59 then (spec_l2Ref.j1 k x0 x4) else (spec_l2Ref.l0 k x0 (wrap64 (x4 + 1)))) else (none)) else (spec_l2Ref.j1 k x0 x4)
end
def spec_l2Ref.f (k : Nat) (a0 : ByteArray) : Option (ByteArray × Int) := spec_l2Ref.l0 k a0 0
theorem spec_l2Ref.mono_l : ∀ k, (∀ y0 y1, LeO (spec_l2Ref.j1 k y0 y1) (spec_l2Ref.j1 (k + 1) y0 y1)) ∧ (∀ y0 y1 y2, LeO (spec_l2Ref.j2 k y0 y1 y2) (spec_l2Ref.j2 (k + 1) y0 y1 y2)) ∧ (∀ y0 y1 y2, LeO (spec_l2Ref.j3 k y0 y1 y2) (spec_l2Ref.j3 (k + 1) y0 y1 y2)) ∧ (∀ y0 y1 y2 y3, LeO (spec_l2Ref.l1 k y0 y1 y2 y3) (spec_l2Ref.l1 (k + 1) y0 y1 y2 y3)) ∧ (∀ y0 y1, LeO (spec_l2Ref.l0 k y0 y1) (spec_l2Ref.l0 (k + 1) y0 y1))
 | 0 => ⟨fun _ _ r h => by simp [spec_l2Ref.j1] at h, fun _ _ _ r h => by simp [spec_l2Ref.j2] at h, fun _ _ _ r h => by simp [spec_l2Ref.j3] at h, fun _ _ _ _ r h => by simp [spec_l2Ref.l1] at h, fun _ _ r h => by simp [spec_l2Ref.l0] at h⟩
 | k + 1 => by
  obtain ⟨ih0, ih1, ih2, ih3, ih4⟩ := spec_l2Ref.mono_l k
  refine ⟨?_, ?_, ?_, ?_, ?_⟩
  ·intro y0 y1
   unfold spec_l2Ref.j1
   repeat' first
   | (with_reducible exact ih0 _ _)
   | (with_reducible exact ih1 _ _ _)
   | (with_reducible exact ih2 _ _ _)
   | (with_reducible exact ih3 _ _ _ _)
   | (with_reducible exact ih4 _ _)
   | (with_reducible exact LeO.refl _)
   | (with_reducible exact LeO.none _)
   | (with_reducible refine LeO.ite ?_ ?_)
   | (with_reducible refine LeO.bind ?_ (fun _ => ?_))
   | exact ih0 _ _
   | exact ih1 _ _ _
   | exact ih2 _ _ _
   | exact ih3 _ _ _ _
   | exact ih4 _ _
   | exact LeO.none _
   | refine LeO.ite ?_ ?_
   | refine LeO.bind ?_ (fun _ => ?_)
  ·intro y0 y1 y2
   unfold spec_l2Ref.j2
   repeat' first
   | (with_reducible exact ih0 _ _)
   | (with_reducible exact ih1 _ _ _)
   | (with_reducible exact ih2 _ _ _)
   | (with_reducible exact ih3 _ _ _ _)
   | (with_reducible exact ih4 _ _)
   | (with_reducible exact LeO.refl _)
   | (with_reducible exact LeO.none _)
   | (with_reducible refine LeO.ite ?_ ?_)
   | (with_reducible refine LeO.bind ?_ (fun _ => ?_))
   | exact ih0 _ _
   | exact ih1 _ _ _
   | exact ih2 _ _ _
   | exact ih3 _ _ _ _
   | exact ih4 _ _
   | exact LeO.none _
   | refine LeO.ite ?_ ?_
   | refine LeO.bind ?_ (fun _ => ?_)
  ·intro y0 y1 y2
   unfold spec_l2Ref.j3
   repeat' first
   | (with_reducible exact ih0 _ _)
   | (with_reducible exact ih1 _ _ _)
   | (with_reducible exact ih2 _ _ _)
   | (with_reducible exact ih3 _ _ _ _)
   | (with_reducible exact ih4 _ _)
   | (with_reducible exact LeO.refl _)
   | (with_reducible exact LeO.none _)
   | (with_reducible refine LeO.ite ?_ ?_)
   | (with_reducible refine LeO.bind ?_ (fun _ => ?_))
   | exact ih0 _ _
   | exact ih1 _ _ _
   | exact ih2 _ _ _
   | exact ih3 _ _ _ _
   | exact ih4 _ _
   | exact LeO.none _
   | refine LeO.ite ?_ ?_
   | refine LeO.bind ?_ (fun _ => ?_)
  ·intro y0 y1 y2 y3
   unfold spec_l2Ref.l1
   repeat' first
   | (with_reducible exact ih0 _ _)
   | (with_reducible exact ih1 _ _ _)
   | (with_reducible exact ih2 _ _ _)
   | (with_reducible exact ih3 _ _ _ _)
   | (with_reducible exact ih4 _ _)
   | (with_reducible exact LeO.refl _)
   | (with_reducible exact LeO.none _)
   | (with_reducible refine LeO.ite ?_ ?_)
   | (with_reducible refine LeO.bind ?_ (fun _ => ?_))
   | exact ih0 _ _
   | exact ih1 _ _ _
   | exact ih2 _ _ _
   | exact ih3 _ _ _ _
   | exact ih4 _ _
   | exact LeO.none _
   | refine LeO.ite ?_ ?_
   | refine LeO.bind ?_ (fun _ => ?_)
  ·intro y0 y1
   unfold spec_l2Ref.l0
   repeat' first
   | (with_reducible exact ih0 _ _)
   | (with_reducible exact ih1 _ _ _)
   | (with_reducible exact ih2 _ _ _)
   | (with_reducible exact ih3 _ _ _ _)
   | (with_reducible exact ih4 _ _)
   | (with_reducible exact LeO.refl _)
   | (with_reducible exact LeO.none _)
   | (with_reducible refine LeO.ite ?_ ?_)
   | (with_reducible refine LeO.bind ?_ (fun _ => ?_))
   | exact ih0 _ _
   | exact ih1 _ _ _
   | exact ih2 _ _ _
   | exact ih3 _ _ _ _
   | exact ih4 _ _
   | exact LeO.none _
   | refine LeO.ite ?_ ?_
   | refine LeO.bind ?_ (fun _ => ?_)
theorem spec_l2Ref.mono : ∀ a0 k, LeO (spec_l2Ref.f k a0) (spec_l2Ref.f (k + 1) a0) := by
 intro a0 k
 obtain ⟨ih0, ih1, ih2, ih3, ih4⟩ := spec_l2Ref.mono_l k
 unfold spec_l2Ref.f
 repeat' first
   | (with_reducible exact ih0 _ _)
   | (with_reducible exact ih1 _ _ _)
   | (with_reducible exact ih2 _ _ _)
   | (with_reducible exact ih3 _ _ _ _)
   | (with_reducible exact ih4 _ _)
   | (with_reducible exact LeO.refl _)
   | (with_reducible exact LeO.none _)
   | (with_reducible refine LeO.ite ?_ ?_)
   | (with_reducible refine LeO.bind ?_ (fun _ => ?_))
   | exact ih0 _ _
   | exact ih1 _ _ _
   | exact ih2 _ _ _
   | exact ih3 _ _ _ _
   | exact ih4 _ _
   | exact LeO.none _
   | refine LeO.ite ?_ ?_
   | refine LeO.bind ?_ (fun _ => ?_)
set_option maxHeartbeats 8000000 in
set_option maxRecDepth 100000 in
theorem spec_l2Ref.calls (k : Nat) (a0 : ByteArray) (r1 : ByteArray) (r2 : Int) (w : World) (h : spec_l2Ref.f k a0 = some (r1, r2)) :
  Calls Tryd.prog 38 #[.string a0] w fun e w' => e = .returned (.tuple #[.string r1, .int .i64 r2]) ∧ Below w.heap.size w w' := by
 have HB := Aside0.mk (Below.refl w.heap.size w)
 have H : (spec_l2Ref.l0 k a0 0) = some (r1, r2) := h
 clear h
 have HC2 := Aside0.mk H
 clear H
 go_enter Tryd.func38, Tryd.ntmps38
 go_upto_block 0 with (fail)
 go_cut [4] (fun v4 wc => ∃ (kq : Nat) (x4_1 : Int), v4 = .int .i64 x4_1 ∧ Aside0 (spec_l2Ref.j1 kq a0 x4_1 = some (r1, r2)) ∧ Aside0 (kq ≤ k) ∧ Aside0 (Below w.heap.size w wc))
 case first =>
  have H := HC2.out
  clear HC2
  have H' := Aside0.mk H
  clear H
  go_wp2
  go_loopg [4] k (fun kq v4 w' => ∃ (x4_1 : Int), v4 = .int .i64 x4_1 ∧ Aside0 (spec_l2Ref.l0 kq a0 x4_1 = some (r1, r2)) ∧ Aside0 (kq ≤ k) ∧ Aside0 (Below w.heap.size w w'))
  case atStart => exact ⟨(0), (by first | rfl | (simp; done) | (simp [*]; done)), H', ⟨Nat.le_refl _⟩, ⟨by repeat (first | (with_reducible first | exact HB.out | apply below_alloc | apply pw_below_drewN | apply below_drew1) | exact HB.out)⟩⟩
  case round =>
   clear H'
   try clear p2
   obtain ⟨x4_1, rfl, HA, HK1, HB⟩ := hrel
   cases gk with
   | zero => exact absurd HA.out (by simp [spec_l2Ref.l0])
   | succ k1 =>
    have H := HA.out
    clear HA
    simp only [spec_l2Ref.l0] at H
    by_cases c3 : x4_1 < (a0.size : Int)
    ·rw [if_pos c3] at H
     have c3b0 : decide (x4_1 < (a0.size : Int)) = true := decide_eq_true c3
     clear c3
     (first | rw [c3b0] | (simp only [i64_w, i32_w]; rw [c3b0]) | skip)
     by_cases c4 : 0 ≤ x4_1
     ·rw [if_pos c4] at H
      have c4b0 : decide (0 ≤ x4_1) = true := decide_eq_true c4
      clear c4
      by_cases c6 : (bt a0 x4_1) = 59
      ·rw [if_pos c6] at H
       have c6b0 : ((bt a0 x4_1) == 59) = true := beq_iff_eq.mpr c6
       have c6b1 : ((bt a0 x4_1) != 59) = false := bne_eq_false_iff_eq.mpr c6
       clear c6
       have H' := Aside0.mk H
       clear H
       have p5 : 0 ≤ (x4_1 : Int) := of_decide_eq_true (by first | (with_reducible assumption) | assumption)
       have q5 : x4_1 < (a0.size : Int) := of_decide_eq_true (by first | (with_reducible assumption) | assumption)
       have hx5 := bt_at a0 x4_1
       replace p5 := eq_true p5
       replace q5 := eq_true q5
       go_wp2
       go_meet
       case rel => exact ⟨_, (x4_1), (by first | rfl | (simp; done) | (simp [*]; done)), H', ⟨by have := HK1.out; first | omega | exact Nat.le_refl _⟩, ⟨by repeat (first | (with_reducible first | exact HB.out | apply below_alloc | apply pw_below_drewN | apply below_drew1) | exact HB.out)⟩⟩
      ·rw [if_neg c6] at H
       have c6b0 : ((bt a0 x4_1) == 59) = false := beq_eq_false_iff_ne.mpr c6
       have c6b1 : ((bt a0 x4_1) != 59) = true := bne_iff_ne.mpr c6
       have H' := Aside0.mk H
       clear H
       have p5 : 0 ≤ (x4_1 : Int) := of_decide_eq_true (by first | (with_reducible assumption) | assumption)
       have q5 : x4_1 < (a0.size : Int) := of_decide_eq_true (by first | (with_reducible assumption) | assumption)
       have hx5 := bt_at a0 x4_1
       replace p5 := eq_true p5
       replace q5 := eq_true q5
       go_wp2
       go_roundg k1
       case measure => have := HK1.out; omega
       case rel => exact ⟨(wrap64 (x4_1 + 1)), (by first | rfl | (simp; done) | (simp [*]; done)), H', ⟨by have := HK1.out; omega⟩, ⟨by repeat (first | (with_reducible first | exact HB.out | apply below_alloc | apply pw_below_drewN | apply below_drew1) | exact HB.out)⟩⟩
     ·rw [if_neg c4] at H
      exact absurd H (by simp)
    ·rw [if_neg c3] at H
     have c3b0 : decide (x4_1 < (a0.size : Int)) = false := decide_eq_false c3
     clear c3
     (first | rw [c3b0] | (simp only [i64_w, i32_w]; rw [c3b0]) | skip)
     have H' := Aside0.mk H
     clear H
     go_wp2
     go_meet
     case rel => exact ⟨_, (x4_1), (by first | rfl | (simp; done) | (simp [*]; done)), H', ⟨by have := HK1.out; first | omega | exact Nat.le_refl _⟩, ⟨by repeat (first | (with_reducible first | exact HB.out | apply below_alloc | apply pw_below_drewN | apply below_drew1) | exact HB.out)⟩⟩
 case rest =>
  clear HC2
  try clear p2
  try clear c3
  try clear c3b0
  try clear c4
  try clear c4b0
  try clear p5
  try clear q5
  try clear hx5
  try clear c6
  try clear c6b0
  try clear c6b1
  try clear p6
  try clear p2
  try clear p5
  try clear q5
  obtain ⟨kq, x4_1, rfl, HA, HJ1, HB⟩ := hcut
  cases kq with
  | zero => exact absurd HA.out (by simp [spec_l2Ref.j1])
  | succ kj1 =>
   have H := HA.out
   clear HA
   simp only [spec_l2Ref.j1] at H
   have HC7 := Aside0.mk H
   clear H
   go_upto_region 4 with (fail)
   go_cut [27] (fun v27 wc => ∃ (kq : Nat) (x27_6 : Bool), v27 = .bool x27_6 ∧ Aside0 (spec_l2Ref.j2 kq a0 x4_1 x27_6 = some (r1, r2)) ∧ Aside0 (kq ≤ kj1) ∧ Aside0 (Below w.heap.size w wc))
   case first =>
    have H := HC7.out
    clear HC7
    by_cases c8 : x4_1 = (a0.size : Int)
    ·rw [if_pos c8] at H
     have c8b0 : (x4_1 == (a0.size : Int)) = true := beq_iff_eq.mpr c8
     have c8b1 : (x4_1 != (a0.size : Int)) = false := bne_eq_false_iff_eq.mpr c8
     clear c8
     (first | rw [c8b0] | (simp only [i64_w, i32_w]; rw [c8b0]) | skip)
     have H' := Aside0.mk H
     clear H
     go_wp2
     go_meet
     case rel => exact ⟨_, (true), (by first | rfl | (simp; done) | (simp [*]; done)), H', ⟨by have := HJ1.out; first | omega | exact Nat.le_refl _⟩, ⟨by repeat (first | (with_reducible first | exact HB.out | apply below_alloc | apply pw_below_drewN | apply below_drew1) | exact HB.out)⟩⟩
    ·rw [if_neg c8] at H
     have c8b0 : (x4_1 == (a0.size : Int)) = false := beq_eq_false_iff_ne.mpr c8
     have c8b1 : (x4_1 != (a0.size : Int)) = true := bne_iff_ne.mpr c8
     (first | rw [c8b0] | (simp only [i64_w, i32_w]; rw [c8b0]) | skip)
     have H' := Aside0.mk H
     clear H
     go_wp2
     go_meet
     case rel => exact ⟨_, (decide (x4_1 > 8)), (by first | rfl | (simp; done) | (simp [*]; done)), H', ⟨by have := HJ1.out; first | omega | exact Nat.le_refl _⟩, ⟨by repeat (first | (with_reducible first | exact HB.out | apply below_alloc | apply pw_below_drewN | apply below_drew1) | exact HB.out)⟩⟩
   case rest =>
    clear HC7
    try clear p2
    try clear c3
    try clear c3b0
    try clear c4
    try clear c4b0
    try clear p5
    try clear q5
    try clear hx5
    try clear c6
    try clear c6b0
    try clear c6b1
    try clear p6
    try clear c8
    try clear c8b0
    try clear c8b1
    try clear p2
    try clear p5
    try clear p6
    try clear q5
    obtain ⟨kq, x27_6, rfl, HA, HJ6, HB⟩ := hcut
    cases kq with
    | zero => exact absurd HA.out (by simp [spec_l2Ref.j2])
    | succ kj6 =>
     have H := HA.out
     clear HA
     simp only [spec_l2Ref.j2] at H
     by_cases c9 : x27_6 = true
     ·subst c9
      have H1 : (some ((⟨#[]⟩ : ByteArray), 0)) = some (r1, r2) := by rw [if_pos rfl] at H; exact H
      clear H
      have H := H1
      clear H1
      simp only [Option.some.injEq, Prod.mk.injEq] at H
      obtain ⟨rfl, rfl⟩ := H
      go_wp2
      go_ret2
      exact ⟨by first | rfl | (simp [*] <;> rfl), by repeat (first | (with_reducible first | exact HB.out | apply below_alloc | apply pw_below_drewN | apply below_drew1) | exact HB.out)⟩
     ·replace c9 := Bool.eq_false_iff.mpr c9
      subst c9
      have H1 : (if 0 ≤ x4_1 then (if x4_1 ≤ (a0.size : Int) then (if (a0.extract 0 (x4_1 : Int).toNat).toList = ([97, 109, 112] : List UInt8) then (some ((⟨#[38]⟩ : ByteArray), wrap64 (x4_1 + 1))) else (if (a0.extract 0 (x4_1 : Int).toNat).toList = ([108, 116] : List UInt8) then (some ((⟨#[60]⟩ : ByteArray), wrap64 (x4_1 + 1))) else (if (a0.extract 0 (x4_1 : Int).toNat).toList = ([103, 116] : List UInt8) then (some ((⟨#[62]⟩ : ByteArray), wrap64 (x4_1 + 1))) else (if (a0.extract 0 (x4_1 : Int).toNat).toList = ([113, 117, 111, 116] : List UInt8) then (some ((⟨#[34]⟩ : ByteArray), wrap64 (x4_1 + 1))) else (if (a0.extract 0 (x4_1 : Int).toNat).toList = ([97, 112, 111, 115] : List UInt8) then (some ((⟨#[39]⟩ : ByteArray), wrap64 (x4_1 + 1))) else (if ((a0.extract 0 (x4_1 : Int).toNat).size : Int) < 2 then (spec_l2Ref.j3 kj6 x4_1 (a0.extract 0 (x4_1 : Int).toNat) true) else (if 0 < ((a0.extract 0 (x4_1 : Int).toNat).size : Int) then (spec_l2Ref.j3 kj6 x4_1 (a0.extract 0 (x4_1 : Int).toNat) ((bt (a0.extract 0 (x4_1 : Int).toNat) 0) != 35)) else (none)))))))) else (none)) else (none)) = some (r1, r2) := by rw [if_neg (show ¬ (false = true) by decide)] at H; exact H
      clear H
      have H := H1
      clear H1
      by_cases c10 : 0 ≤ x4_1
      ·rw [if_pos c10] at H
       have c10b0 := eq_true c10
       have c10b1 : decide (0 ≤ x4_1) = true := decide_eq_true c10
       clear c10
       by_cases c11 : x4_1 ≤ (a0.size : Int)
       ·rw [if_pos c11] at H
        have c11b0 := eq_true c11
        have c11b1 : decide (x4_1 ≤ (a0.size : Int)) = true := decide_eq_true c11
        clear c11
        by_cases c12 : (a0.extract 0 (x4_1 : Int).toNat).toList = ([97, 109, 112] : List UInt8)
        ·rw [if_pos c12] at H
         have c12b0 : ((a0.extract 0 (x4_1 : Int).toNat).toList == ([97, 109, 112] : List UInt8)) = true := beq_iff_eq.mpr c12
         have c12b1 : ((a0.extract 0 (x4_1 : Int).toNat).toList != ([97, 109, 112] : List UInt8)) = false := bne_eq_false_iff_eq.mpr c12
         clear c12
         simp only [Option.some.injEq, Prod.mk.injEq] at H
         obtain ⟨rfl, rfl⟩ := H
         go_wp2
         go_ret2
         exact ⟨by first | rfl | (simp [*] <;> rfl), by repeat (first | (with_reducible first | exact HB.out | apply below_alloc | apply pw_below_drewN | apply below_drew1) | exact HB.out)⟩
        ·rw [if_neg c12] at H
         have c12b0 : ((a0.extract 0 (x4_1 : Int).toNat).toList == ([97, 109, 112] : List UInt8)) = false := beq_eq_false_iff_ne.mpr c12
         have c12b1 : ((a0.extract 0 (x4_1 : Int).toNat).toList != ([97, 109, 112] : List UInt8)) = true := bne_iff_ne.mpr c12
         by_cases c13 : (a0.extract 0 (x4_1 : Int).toNat).toList = ([108, 116] : List UInt8)
         ·rw [if_pos c13] at H
          have c13b0 : ((a0.extract 0 (x4_1 : Int).toNat).toList == ([108, 116] : List UInt8)) = true := beq_iff_eq.mpr c13
          have c13b1 : ((a0.extract 0 (x4_1 : Int).toNat).toList != ([108, 116] : List UInt8)) = false := bne_eq_false_iff_eq.mpr c13
          clear c13
          simp only [Option.some.injEq, Prod.mk.injEq] at H
          obtain ⟨rfl, rfl⟩ := H
          go_wp2
          go_ret2
          exact ⟨by first | rfl | (simp [*] <;> rfl), by repeat (first | (with_reducible first | exact HB.out | apply below_alloc | apply pw_below_drewN | apply below_drew1) | exact HB.out)⟩
         ·rw [if_neg c13] at H
          have c13b0 : ((a0.extract 0 (x4_1 : Int).toNat).toList == ([108, 116] : List UInt8)) = false := beq_eq_false_iff_ne.mpr c13
          have c13b1 : ((a0.extract 0 (x4_1 : Int).toNat).toList != ([108, 116] : List UInt8)) = true := bne_iff_ne.mpr c13
          by_cases c14 : (a0.extract 0 (x4_1 : Int).toNat).toList = ([103, 116] : List UInt8)
          ·rw [if_pos c14] at H
           have c14b0 : ((a0.extract 0 (x4_1 : Int).toNat).toList == ([103, 116] : List UInt8)) = true := beq_iff_eq.mpr c14
           have c14b1 : ((a0.extract 0 (x4_1 : Int).toNat).toList != ([103, 116] : List UInt8)) = false := bne_eq_false_iff_eq.mpr c14
           clear c14
           simp only [Option.some.injEq, Prod.mk.injEq] at H
           obtain ⟨rfl, rfl⟩ := H
           go_wp2
           go_ret2
           exact ⟨by first | rfl | (simp [*] <;> rfl), by repeat (first | (with_reducible first | exact HB.out | apply below_alloc | apply pw_below_drewN | apply below_drew1) | exact HB.out)⟩
          ·rw [if_neg c14] at H
           have c14b0 : ((a0.extract 0 (x4_1 : Int).toNat).toList == ([103, 116] : List UInt8)) = false := beq_eq_false_iff_ne.mpr c14
           have c14b1 : ((a0.extract 0 (x4_1 : Int).toNat).toList != ([103, 116] : List UInt8)) = true := bne_iff_ne.mpr c14
           by_cases c15 : (a0.extract 0 (x4_1 : Int).toNat).toList = ([113, 117, 111, 116] : List UInt8)
           ·rw [if_pos c15] at H
            have c15b0 : ((a0.extract 0 (x4_1 : Int).toNat).toList == ([113, 117, 111, 116] : List UInt8)) = true := beq_iff_eq.mpr c15
            have c15b1 : ((a0.extract 0 (x4_1 : Int).toNat).toList != ([113, 117, 111, 116] : List UInt8)) = false := bne_eq_false_iff_eq.mpr c15
            clear c15
            simp only [Option.some.injEq, Prod.mk.injEq] at H
            obtain ⟨rfl, rfl⟩ := H
            go_wp2
            go_ret2
            exact ⟨by first | rfl | (simp [*] <;> rfl), by repeat (first | (with_reducible first | exact HB.out | apply below_alloc | apply pw_below_drewN | apply below_drew1) | exact HB.out)⟩
           ·rw [if_neg c15] at H
            have c15b0 : ((a0.extract 0 (x4_1 : Int).toNat).toList == ([113, 117, 111, 116] : List UInt8)) = false := beq_eq_false_iff_ne.mpr c15
            have c15b1 : ((a0.extract 0 (x4_1 : Int).toNat).toList != ([113, 117, 111, 116] : List UInt8)) = true := bne_iff_ne.mpr c15
            by_cases c16 : (a0.extract 0 (x4_1 : Int).toNat).toList = ([97, 112, 111, 115] : List UInt8)
            ·rw [if_pos c16] at H
             have c16b0 : ((a0.extract 0 (x4_1 : Int).toNat).toList == ([97, 112, 111, 115] : List UInt8)) = true := beq_iff_eq.mpr c16
             have c16b1 : ((a0.extract 0 (x4_1 : Int).toNat).toList != ([97, 112, 111, 115] : List UInt8)) = false := bne_eq_false_iff_eq.mpr c16
             clear c16
             simp only [Option.some.injEq, Prod.mk.injEq] at H
             obtain ⟨rfl, rfl⟩ := H
             go_wp2
             go_ret2
             exact ⟨by first | rfl | (simp [*] <;> rfl), by repeat (first | (with_reducible first | exact HB.out | apply below_alloc | apply pw_below_drewN | apply below_drew1) | exact HB.out)⟩
            ·rw [if_neg c16] at H
             have c16b0 : ((a0.extract 0 (x4_1 : Int).toNat).toList == ([97, 112, 111, 115] : List UInt8)) = false := beq_eq_false_iff_ne.mpr c16
             have c16b1 : ((a0.extract 0 (x4_1 : Int).toNat).toList != ([97, 112, 111, 115] : List UInt8)) = true := bne_iff_ne.mpr c16
             have HC17 := Aside0.mk H
             clear H
             go_upto_region 18 with (fail)
             generalize a0.extract 0 (x4_1 : Int).toNat = zz at *
             go_cut [59] (fun v59 wc => ∃ (kq : Nat) (x59_16 : Bool), v59 = .bool x59_16 ∧ Aside0 (spec_l2Ref.j3 kq x4_1 zz x59_16 = some (r1, r2)) ∧ Aside0 (kq ≤ kj6) ∧ Aside0 (Below w.heap.size w wc))
             case first =>
              have H := HC17.out
              clear HC17
              by_cases c18 : (zz.size : Int) < 2
              ·rw [if_pos c18] at H
               have c18b0 : decide ((zz.size : Int) < 2) = true := decide_eq_true c18
               have c18b1 : decide (zz.size < 2) = true := decide_eq_true (by omega)
               clear c18
               (first | rw [c18b0] | (simp only [i64_w, i32_w]; rw [c18b0]) | skip)
               have H' := Aside0.mk H
               clear H
               go_wp2
               go_meet
               case rel => exact ⟨_, (true), (by first | rfl | (simp; done) | (simp [*]; done)), H', ⟨by have := HJ1.out; have := HJ6.out; first | omega | exact Nat.le_refl _⟩, ⟨by repeat (first | (with_reducible first | exact HB.out | apply below_alloc | apply pw_below_drewN | apply below_drew1) | exact HB.out)⟩⟩
              ·rw [if_neg c18] at H
               have c18b0 : decide ((zz.size : Int) < 2) = false := decide_eq_false c18
               have c18b1 : decide (zz.size < 2) = false := decide_eq_false (by omega)
               clear c18
               (first | rw [c18b0] | (simp only [i64_w, i32_w]; rw [c18b0]) | skip)
               by_cases c19 : 0 < (zz.size : Int)
               ·rw [if_pos c19] at H
                have c19b0 : decide (0 < (zz.size : Int)) = true := decide_eq_true c19
                have c19b1 : decide (0 < zz.size) = true := decide_eq_true (by omega)
                clear c19
                have H' := Aside0.mk H
                clear H
                have p20 : 0 ≤ (0 : Int) := (by omega)
                have q20 : 0 < zz.size := (by have : (0 : Int) < (zz.size : Int) := of_decide_eq_true (by first | (with_reducible assumption) | assumption); omega)
                have hx20 : ∀ h : 0 < zz.size, ((zz[0]'h).toNat : Int) = bt zz 0 := bt_at zz 0
                clear p20
                have qi20 : (0 < (zz.size : Int)) = True := eq_true (of_decide_eq_true (by first | (with_reducible assumption) | assumption))
                replace q20 := eq_true q20
                go_wp2
                go_meet
                case rel => exact ⟨_, (((bt zz 0) != 35)), (by first | rfl | (simp; done) | (simp [*]; done)), H', ⟨by have := HJ1.out; have := HJ6.out; first | omega | exact Nat.le_refl _⟩, ⟨by repeat (first | (with_reducible first | exact HB.out | apply below_alloc | apply pw_below_drewN | apply below_drew1) | exact HB.out)⟩⟩
               ·rw [if_neg c19] at H
                exact absurd H (by simp)
             case rest =>
              clear HC17
              try clear c1
              try clear p2
              try clear q2
              try clear hx2
              try clear qi2
              try clear c3
              try clear c3b0
              try clear c4
              try clear c4b0
              try clear p5
              try clear q5
              try clear hx5
              try clear c6
              try clear c6b0
              try clear c6b1
              try clear p6
              try clear c8
              try clear c8b0
              try clear c8b1
              try clear c9
              try clear c10
              try clear c10b0
              try clear c10b1
              try clear c11
              try clear c11b0
              try clear c11b1
              try clear c12
              try clear c12b0
              try clear c12b1
              try clear c13
              try clear c13b0
              try clear c13b1
              try clear c14
              try clear c14b0
              try clear c14b1
              try clear c15
              try clear c15b0
              try clear c15b1
              try clear c16
              try clear c16b0
              try clear c16b1
              try clear c18
              try clear c18b0
              try clear c18b1
              try clear c19
              try clear c19b0
              try clear c19b1
              try clear p20
              try clear q20
              try clear hx20
              try clear qi20
              try clear p2
              try clear p20
              try clear p5
              try clear p6
              try clear q20
              try clear q5
              obtain ⟨kq, x59_16, rfl, HA, HJ16, HB⟩ := hcut
              cases kq with
              | zero => exact absurd HA.out (by simp [spec_l2Ref.j3])
              | succ kj16 =>
               have H := HA.out
               clear HA
               simp only [spec_l2Ref.j3] at H
               by_cases c21 : x59_16 = true
               ·subst c21
                have H1 : (some ((⟨#[]⟩ : ByteArray), 0)) = some (r1, r2) := by rw [if_pos rfl] at H; exact H
                clear H
                have H := H1
                clear H1
                simp only [Option.some.injEq, Prod.mk.injEq] at H
                obtain ⟨rfl, rfl⟩ := H
                go_wp2
                go_ret2
                exact ⟨by first | rfl | (simp [*] <;> rfl), by repeat (first | (with_reducible first | exact HB.out | apply below_alloc | apply pw_below_drewN | apply below_drew1) | exact HB.out)⟩
               ·replace c21 := Bool.eq_false_iff.mpr c21
                subst c21
                have H1 : (spec_l2Ref.l1 kj16 x4_1 zz 0 1) = some (r1, r2) := by rw [if_neg (show ¬ (false = true) by decide)] at H; exact H
                clear H
                have H := H1
                clear H1
                have H' := Aside0.mk H
                clear H
                go_wp2
                go_loopg [6, 7] kj16 (fun kq v6 v7 w' => ∃ (x6_4 : Int) (x7_4 : Int), v6 = .int .i64 x6_4 ∧ v7 = .int .i64 x7_4 ∧ Aside0 (spec_l2Ref.l1 kq x4_1 zz x6_4 x7_4 = some (r1, r2)) ∧ Aside0 (kq ≤ kj16) ∧ Aside0 (Below w.heap.size w w'))
                case atStart => exact ⟨(0), (1), (by first | rfl | (simp; done) | (simp [*]; done)), (by first | rfl | (simp; done) | (simp [*]; done)), H', ⟨Nat.le_refl _⟩, ⟨by repeat (first | (with_reducible first | exact HB.out | apply below_alloc | apply pw_below_drewN | apply below_drew1) | exact HB.out)⟩⟩
                case round =>
                 clear H'
                 try clear c1
                 try clear c2
                 try clear p2
                 try clear q2
                 try clear hx2
                 try clear qi2
                 try clear c3
                 try clear c3b0
                 try clear c4
                 try clear c4b0
                 try clear p5
                 try clear q5
                 try clear hx5
                 try clear c6
                 try clear c6b0
                 try clear c6b1
                 try clear p6
                 try clear c8
                 try clear c8b0
                 try clear c8b1
                 try clear c9
                 try clear c10
                 try clear c10b0
                 try clear c10b1
                 try clear c11
                 try clear c11b0
                 try clear c11b1
                 try clear c12
                 try clear c12b0
                 try clear c12b1
                 try clear c13
                 try clear c13b0
                 try clear c13b1
                 try clear c14
                 try clear c14b0
                 try clear c14b1
                 try clear c15
                 try clear c15b0
                 try clear c15b1
                 try clear c16
                 try clear c16b0
                 try clear c16b1
                 try clear c18
                 try clear c18b0
                 try clear c18b1
                 try clear c19
                 try clear c19b0
                 try clear c19b1
                 try clear p20
                 try clear q20
                 try clear hx20
                 try clear qi20
                 try clear c21
                 try clear p2
                 try clear p20
                 try clear p5
                 try clear p6
                 try clear q2
                 try clear q20
                 try clear q5
                 obtain ⟨x6_4, x7_4, rfl, rfl, HA, HK4, HB⟩ := hrel
                 cases gk with
                 | zero => exact absurd HA.out (by simp [spec_l2Ref.l1])
                 | succ k4 =>
                  have H := HA.out
                  clear HA
                  simp only [spec_l2Ref.l1] at H
                  by_cases c22 : x7_4 < (zz.size : Int)
                  ·rw [if_pos c22] at H
                   have c22b0 : decide (x7_4 < (zz.size : Int)) = true := decide_eq_true c22
                   clear c22
                   by_cases c23 : 0 ≤ x7_4
                   ·rw [if_pos c23] at H
                    have c23b0 : decide (0 ≤ x7_4) = true := decide_eq_true c23
                    clear c23
                    replace H := Option.bind_eq_some_iff.mp H
                    obtain ⟨t133, A250, H⟩ := H
                    replace H : (if t133 = true then (spec_l2Ref.l1 k4 x4_1 zz (wrap64 ((wrap64 (x6_4 * 10)) + (((bt zz x7_4) - 48) % 256))) (wrap64 (x7_4 + 1))) else (some ((⟨#[]⟩ : ByteArray), 0))) = some (r1, r2) := H
                    have A25 := Aside0.mk A250
                    clear A250
                    by_cases c26 : t133 = true
                    ·subst c26
                     have H1 : (spec_l2Ref.l1 k4 x4_1 zz (wrap64 ((wrap64 (x6_4 * 10)) + (((bt zz x7_4) - 48) % 256))) (wrap64 (x7_4 + 1))) = some (r1, r2) := by rw [if_pos rfl] at H; exact H
                     clear H
                     have H := H1
                     clear H1
                     have H' := Aside0.mk H
                     clear H
                     have p24 : 0 ≤ (x7_4 : Int) := of_decide_eq_true (by first | (with_reducible assumption) | assumption)
                     have q24 : x7_4 < (zz.size : Int) := of_decide_eq_true (by first | (with_reducible assumption) | assumption)
                     have hx24 := bt_at zz x7_4
                     replace p24 := eq_true p24
                     replace q24 := eq_true q24
                     go_wp2_with (first | ((with_reducible refine gate_callee (f := 74) rfl ?_); refine goesL_ (some 69) rfl rfl Tryd.func74 (by kernel_rfl) rfl #[.int .u8 (bt zz x7_4)] rfl (by (try simp only [List.map_toArray, List.map_cons, List.map_nil]); first | done | rfl | (simp only [List.length_drop, List.length_take]; rfl)) ?_; (with_reducible refine (spec_l1Digit.calls (bt zz x7_4) true _ A25.out).mono ?_); rintro e w' ⟨rfl, ⟨nd, rfl⟩⟩; refine ⟨_, rfl, ?_⟩; have p27 : 0 ≤ (x7_4 : Int) := of_decide_eq_true (by first | (with_reducible assumption) | assumption); have q27 : x7_4 < (zz.size : Int) := of_decide_eq_true (by first | (with_reducible assumption) | assumption); have hx27 := bt_at zz x7_4; replace p27 := eq_true p27; replace q27 := eq_true q27))
                     go_roundg k4
                     case measure => have := HJ1.out; have := HJ6.out; have := HJ16.out; have := HK4.out; omega
                     case rel => exact ⟨(wrap64 ((wrap64 (x6_4 * 10)) + (((bt zz x7_4) - 48) % 256))), (wrap64 (x7_4 + 1)), (by first | rfl | (simp; done) | (simp [*]; done)), (by first | rfl | (simp; done) | (simp [*]; done)), H', ⟨by have := HJ1.out; have := HJ6.out; have := HJ16.out; have := HK4.out; omega⟩, ⟨by repeat (first | (with_reducible first | exact HB.out | apply below_alloc | apply pw_below_drewN | apply below_drew1) | exact HB.out)⟩⟩
                    ·replace c26 := Bool.eq_false_iff.mpr c26
                     subst c26
                     have H1 : (some ((⟨#[]⟩ : ByteArray), 0)) = some (r1, r2) := by rw [if_neg (show ¬ (false = true) by decide)] at H; exact H
                     clear H
                     have H := H1
                     clear H1
                     simp only [Option.some.injEq, Prod.mk.injEq] at H
                     obtain ⟨rfl, rfl⟩ := H
                     have p24 : 0 ≤ (x7_4 : Int) := of_decide_eq_true (by first | (with_reducible assumption) | assumption)
                     have q24 : x7_4 < (zz.size : Int) := of_decide_eq_true (by first | (with_reducible assumption) | assumption)
                     have hx24 := bt_at zz x7_4
                     replace p24 := eq_true p24
                     replace q24 := eq_true q24
                     go_wp2_with (first | ((with_reducible refine gate_callee (f := 74) rfl ?_); refine goesL_ (some 69) rfl rfl Tryd.func74 (by kernel_rfl) rfl #[.int .u8 (bt zz x7_4)] rfl (by (try simp only [List.map_toArray, List.map_cons, List.map_nil]); first | done | rfl | (simp only [List.length_drop, List.length_take]; rfl)) ?_; (with_reducible refine (spec_l1Digit.calls (bt zz x7_4) false _ A25.out).mono ?_); rintro e w' ⟨rfl, ⟨nd, rfl⟩⟩; refine ⟨_, rfl, ?_⟩))
                     go_ret2
                     exact ⟨by first | rfl | (simp [*] <;> rfl), by repeat (first | (with_reducible first | exact HB.out | apply below_alloc | apply pw_below_drewN | apply below_drew1) | exact HB.out)⟩
                   ·rw [if_neg c23] at H
                    exact absurd H (by simp)
                  ·rw [if_neg c22] at H
                   have c22b0 : decide (x7_4 < (zz.size : Int)) = false := decide_eq_false c22
                   clear c22
                   replace H := Option.bind_eq_some_iff.mp H
                   obtain ⟨t134, A280, H⟩ := H
                   replace H : (if t134 = true then ((spec_l1Bytes.f x6_4).bind fun t135 => (some (t135, wrap64 (x4_1 + 1)))) else (some ((⟨#[]⟩ : ByteArray), 0))) = some (r1, r2) := H
                   have A28 := Aside0.mk A280
                   clear A280
                   by_cases c29 : t134 = true
                   ·subst c29
                    have H1 : ((spec_l1Bytes.f x6_4).bind fun t135 => (some (t135, wrap64 (x4_1 + 1)))) = some (r1, r2) := by rw [if_pos rfl] at H; exact H
                    clear H
                    have H := H1
                    clear H1
                    replace H := Option.bind_eq_some_iff.mp H
                    obtain ⟨t135, A300, H⟩ := H
                    replace H : (some (t135, wrap64 (x4_1 + 1))) = some (r1, r2) := H
                    have A30 := Aside0.mk A300
                    clear A300
                    simp only [Option.some.injEq, Prod.mk.injEq] at H
                    obtain ⟨rfl, rfl⟩ := H
                    go_wp2_with (first | ((with_reducible refine gate_callee (f := 73) rfl ?_); refine goesL_ (some 80) rfl rfl Tryd.func73 (by kernel_rfl) rfl #[.int .i64 x6_4] rfl (by (try simp only [List.map_toArray, List.map_cons, List.map_nil]); first | done | rfl | (simp only [List.length_drop, List.length_take]; rfl)) ?_; (with_reducible refine (spec_CharOk.calls x6_4 true _ A28.out).mono ?_); rintro e w' ⟨rfl, ⟨nd, rfl⟩⟩; refine ⟨_, rfl, ?_⟩) | ((with_reducible refine gate_callee (f := 75) rfl ?_); refine goesL_ (some 83) rfl rfl Tryd.func75 (by kernel_rfl) rfl #[.int .i64 x6_4] rfl (by (try simp only [List.map_toArray, List.map_cons, List.map_nil]); first | done | rfl | (simp only [List.length_drop, List.length_take]; rfl)) ?_; (with_reducible refine (spec_l1Bytes.calls x6_4 t135 _ A30.out).mono ?_); rintro e w31 ⟨rfl, hb⟩; refine ⟨_, rfl, ?_⟩; have n0_ := Aside0.mk (below_step (by repeat (first | (with_reducible first | exact HB.out | apply below_alloc | apply pw_below_drewN | apply below_drew1) | exact HB.out)) hb); clear HB; have HB := n0_; clear n0_; (try clear hb); (try clear hb2); (try clear hk); (try clear hi)))
                    go_ret2
                    exact ⟨by first | rfl | (simp [*] <;> rfl), by repeat (first | (with_reducible first | exact HB.out | apply below_alloc | apply pw_below_drewN | apply below_drew1) | exact HB.out)⟩
                   ·replace c29 := Bool.eq_false_iff.mpr c29
                    subst c29
                    have H1 : (some ((⟨#[]⟩ : ByteArray), 0)) = some (r1, r2) := by rw [if_neg (show ¬ (false = true) by decide)] at H; exact H
                    clear H
                    have H := H1
                    clear H1
                    simp only [Option.some.injEq, Prod.mk.injEq] at H
                    obtain ⟨rfl, rfl⟩ := H
                    go_wp2_with (first | ((with_reducible refine gate_callee (f := 73) rfl ?_); refine goesL_ (some 80) rfl rfl Tryd.func73 (by kernel_rfl) rfl #[.int .i64 x6_4] rfl (by (try simp only [List.map_toArray, List.map_cons, List.map_nil]); first | done | rfl | (simp only [List.length_drop, List.length_take]; rfl)) ?_; (with_reducible refine (spec_CharOk.calls x6_4 false _ A28.out).mono ?_); rintro e w' ⟨rfl, ⟨nd, rfl⟩⟩; refine ⟨_, rfl, ?_⟩))
                    go_ret2
                    exact ⟨by first | rfl | (simp [*] <;> rfl), by repeat (first | (with_reducible first | exact HB.out | apply below_alloc | apply pw_below_drewN | apply below_drew1) | exact HB.out)⟩
       ·rw [if_neg c11] at H
        exact absurd H (by simp)
      ·rw [if_neg c10] at H
       exact absurd H (by simp)

end Go.Proofs.YtbhklkpjjpkblaaDoor.PU
