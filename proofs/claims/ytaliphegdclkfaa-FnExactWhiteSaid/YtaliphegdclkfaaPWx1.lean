-- Printed by this session's pdrive.py over the kit's printer.
import Derived.Test.YtaliphegdclkfaaPWx0
namespace Go.Proofs.Ytaliphegdclkfaa.PW
open Go.RowKit Go.Proofs.YtaliphegdclkfaaW.PrintWords Go.Proofs.YtaliphegdclkfaaW.PrintLast Go.Proofs.YtaliphegdclkfaaW.PrintMore Go.Proofs.YtaliphegdclkfaaW.WordsB
attribute [local go_sem] max2_int min2_int max_two min_two max_three min_three max_four min_four   -- for this text's walks alone
set_option linter.unusedVariables false
set_option linter.unusedSimpArgs false

/-! ### spec_l7Blank: function 52 -/
def spec_l7Blank.f (a0 : Int) : Option (Bool) := if a0 = 32 then (some true) else (if a0 = 9 then (some true) else (if a0 = 10 then (some true) else (some (a0 == 13))))
set_option maxHeartbeats 8000000 in
set_option maxRecDepth 100000 in
theorem spec_l7Blank.calls (a0 : Int) (r : Bool) (w : World) (h : spec_l7Blank.f a0 = some r) :
  Calls Try.prog 52 #[.int .u8 a0] w fun e w' => e = .returned (.bool r) ∧ Drawn0 w w' := by
 have H : (if a0 = 32 then (some true) else (if a0 = 9 then (some true) else (if a0 = 10 then (some true) else (some (a0 == 13))))) = some r := h
 clear h
 by_cases c2 : a0 = 32
 ·rw [if_pos c2] at H
  have c2b0 : (a0 == 32) = true := beq_iff_eq.mpr c2
  have c2b1 : (a0 != 32) = false := bne_eq_false_iff_eq.mpr c2
  clear c2
  obtain rfl := Option.some.inj H
  go_enter Try.func52, Try.ntmps52
  go_wp2
  go_ret
  exact ⟨by first | rfl | (simp; done) | (simp [*]; done), by repeat (first | exact Drawn0.refl _ | apply Drawn0.step)⟩
 ·rw [if_neg c2] at H
  have c2b0 : (a0 == 32) = false := beq_eq_false_iff_ne.mpr c2
  have c2b1 : (a0 != 32) = true := bne_iff_ne.mpr c2
  by_cases c3 : a0 = 9
  ·rw [if_pos c3] at H
   have c3b0 : (a0 == 9) = true := beq_iff_eq.mpr c3
   have c3b1 : (a0 != 9) = false := bne_eq_false_iff_eq.mpr c3
   clear c3
   obtain rfl := Option.some.inj H
   go_enter Try.func52, Try.ntmps52
   go_wp2
   go_ret
   exact ⟨by first | rfl | (simp; done) | (simp [*]; done), by repeat (first | exact Drawn0.refl _ | apply Drawn0.step)⟩
  ·rw [if_neg c3] at H
   have c3b0 : (a0 == 9) = false := beq_eq_false_iff_ne.mpr c3
   have c3b1 : (a0 != 9) = true := bne_iff_ne.mpr c3
   by_cases c4 : a0 = 10
   ·rw [if_pos c4] at H
    have c4b0 : (a0 == 10) = true := beq_iff_eq.mpr c4
    have c4b1 : (a0 != 10) = false := bne_eq_false_iff_eq.mpr c4
    clear c4
    obtain rfl := Option.some.inj H
    go_enter Try.func52, Try.ntmps52
    go_wp2
    go_ret
    exact ⟨by first | rfl | (simp; done) | (simp [*]; done), by repeat (first | exact Drawn0.refl _ | apply Drawn0.step)⟩
   ·rw [if_neg c4] at H
    have c4b0 : (a0 == 10) = false := beq_eq_false_iff_ne.mpr c4
    have c4b1 : (a0 != 10) = true := bne_iff_ne.mpr c4
    obtain rfl := Option.some.inj H
    go_enter Try.func52, Try.ntmps52
    go_wp2
    go_ret
    exact ⟨by first | rfl | (simp; done) | (simp [*]; done), by repeat (first | exact Drawn0.refl _ | apply Drawn0.step)⟩

/-! ### spec_l7Join: function 53 -/
def spec_l7Join.l0 : Nat → List ByteArray → ByteArray → Int → Option (ByteArray)
 | 0, _, _, _ => none
 | k + 1, x0, x3, x4 => if x4 < (x0.length : Int) then (if x4 > 0 then (if x3.size + 1 ≤ 9223372036854775807 then (if 0 ≤ x4 then (if x3.size + 1 + (rdOf ByteArray.empty x0 x4).size ≤ 9223372036854775807 then (spec_l7Join.l0 k x0 ((x3 ++ (⟨#[32]⟩ : ByteArray)) ++ (rdOf ByteArray.empty x0 x4)) (wrap64 (x4 + 1))) else (none)) else (none)) else (none)) else (if 0 ≤ x4 then (if x3.size + (rdOf ByteArray.empty x0 x4).size ≤ 9223372036854775807 then (spec_l7Join.l0 k x0 (x3 ++ (rdOf ByteArray.empty x0 x4)) (wrap64 (x4 + 1))) else (none)) else (none))) else (some x3)
def spec_l7Join.f (k : Nat) (l0 : List ByteArray) : Option (ByteArray) := spec_l7Join.l0 k l0 (⟨#[]⟩ : ByteArray) 0
theorem spec_l7Join.mono_l : ∀ k, (∀ y0 y1 y2, LeO (spec_l7Join.l0 k y0 y1 y2) (spec_l7Join.l0 (k + 1) y0 y1 y2))
 | 0 => fun _ _ _ r h => by simp [spec_l7Join.l0] at h
 | k + 1 => by
  have ih0 := spec_l7Join.mono_l k
  ·intro y0 y1 y2
   unfold spec_l7Join.l0
   repeat' first
   | (with_reducible exact ih0 _ _ _)
   | (with_reducible exact LeO.refl _)
   | (with_reducible exact LeO.none _)
   | (with_reducible refine LeO.ite ?_ ?_)
   | (with_reducible refine LeO.bind ?_ (fun _ => ?_))
   | exact ih0 _ _ _
   | exact LeO.none _
   | refine LeO.ite ?_ ?_
   | refine LeO.bind ?_ (fun _ => ?_)
theorem spec_l7Join.mono : ∀ a0 k, LeO (spec_l7Join.f k a0) (spec_l7Join.f (k + 1) a0) := by
 intro a0 k
 have ih0 := spec_l7Join.mono_l k
 unfold spec_l7Join.f
 repeat' first
   | (with_reducible exact ih0 _ _ _)
   | (with_reducible exact LeO.refl _)
   | (with_reducible exact LeO.none _)
   | (with_reducible refine LeO.ite ?_ ?_)
   | (with_reducible refine LeO.bind ?_ (fun _ => ?_))
   | exact ih0 _ _ _
   | exact LeO.none _
   | refine LeO.ite ?_ ?_
   | refine LeO.bind ?_ (fun _ => ?_)
set_option maxHeartbeats 8000000 in
set_option maxRecDepth 100000 in
theorem spec_l7Join.calls (k : Nat) (A0 : Option Addr) (c0 : Nat) (l0 : List ByteArray) (r : ByteArray) (w : World) (hr0 : Kd.C Kd.string w A0 l0.length l0) (hc0 : l0.length ≤ c0) (h : spec_l7Join.f k l0 = some r) :
  Calls Try.prog 53 #[.slice A0 l0.length c0] w fun e w' => e = .returned (.string r) ∧ Drawn0 w w' := by
 have HR0 := Aside0.mk hr0
 have HC0 := Aside0.mk hc0
 clear hr0 hc0
 have H : (spec_l7Join.l0 k l0 (⟨#[]⟩ : ByteArray) 0) = some r := h
 clear h
 have H' := Aside0.mk H
 clear H
 go_enter Try.func53, Try.ntmps53
 go_wp2
 go_loopg [3, 4] k (fun kq v3 v4 w' => ∃ (x3_1 : ByteArray) (x4_1 : Int), v3 = .string x3_1 ∧ v4 = .int .i64 x4_1 ∧ Aside0 (spec_l7Join.l0 kq l0 x3_1 x4_1 = some r) ∧ Aside0 (kq ≤ k) ∧ Drawn0 w w')
 case atStart => exact ⟨((⟨#[]⟩ : ByteArray)), (0), (by first | rfl | (simp; done) | (simp [*]; done)), (by first | rfl | (simp; done) | (simp [*]; done)), H', ⟨Nat.le_refl _⟩, by repeat (first | exact Drawn0.refl _ | apply Drawn0.step)⟩
 case round =>
  clear H'
  obtain ⟨x3_1, x4_1, rfl, rfl, HA, HK1, ⟨m1, rfl⟩⟩ := hrel
  cases gk with
  | zero => exact absurd HA.out (by simp [spec_l7Join.l0])
  | succ k1 =>
   have H := HA.out
   clear HA
   simp only [spec_l7Join.l0] at H
   by_cases c2 : x4_1 < (l0.length : Int)
   ·rw [if_pos c2] at H
    have c2b0 : decide (x4_1 < (l0.length : Int)) = true := decide_eq_true c2
    clear c2
    by_cases c3 : x4_1 > 0
    ·rw [if_pos c3] at H
     have c3b0 : decide (0 < x4_1) = true := decide_eq_true c3
     clear c3
     by_cases c4 : x3_1.size + 1 ≤ 9223372036854775807
     ·rw [if_pos c4] at H
      have c4b0 := eq_true c4
      have c4b1 : decide (x3_1.size + 1 ≤ 9223372036854775807) = true := decide_eq_true c4
      try have c4b2 : (9223372036854775807 < x3_1.size + 1) = False := eq_false (Nat.not_lt.2 c4)
      by_cases c5 : 0 ≤ x4_1
      ·rw [if_pos c5] at H
       have c5b0 : decide (0 ≤ x4_1) = true := decide_eq_true c5
       clear c5
       by_cases c6 : x3_1.size + 1 + (rdOf ByteArray.empty l0 x4_1).size ≤ 9223372036854775807
       ·rw [if_pos c6] at H
        have c6b0 := eq_true c6
        have c6b1 : decide (x3_1.size + 1 + (rdOf ByteArray.empty l0 x4_1).size ≤ 9223372036854775807) = true := decide_eq_true c6
        try have c6b2 : (9223372036854775807 < x3_1.size + 1 + (rdOf ByteArray.empty l0 x4_1).size) = False := eq_false (Nat.not_lt.2 c6)
        have H' := Aside0.mk H
        clear H
        have p101 : 0 ≤ (x4_1 : Int) := of_decide_eq_true (by first | (with_reducible assumption) | assumption)
        have q101 : x4_1 < (l0.length : Int) := of_decide_eq_true (by first | (with_reducible assumption) | assumption)
        obtain ⟨ad101, e101, hx101_0⟩ := Kd.at_string HR0.out x4_1 p101 q101
        cases e101
        replace p101 := eq_true p101
        replace q101 := eq_true q101
        go_wp2
        go_roundg k1
        case measure => have := HK1.out; omega
        case rel => exact ⟨((x3_1 ++ (⟨#[32]⟩ : ByteArray)) ++ (rdOf ByteArray.empty l0 x4_1)), (wrap64 (x4_1 + 1)), (by first | rfl | (simp; done) | (simp [*]; done)), (by first | rfl | (simp; done) | (simp [*]; done)), H', ⟨by have := HK1.out; omega⟩, by repeat (first | exact Drawn0.refl _ | apply Drawn0.step)⟩
       ·rw [if_neg c6] at H
        exact absurd H (by simp)
      ·rw [if_neg c5] at H
       exact absurd H (by simp)
     ·rw [if_neg c4] at H
      exact absurd H (by simp)
    ·rw [if_neg c3] at H
     have c3b0 : decide (0 < x4_1) = false := decide_eq_false c3
     clear c3
     by_cases c7 : 0 ≤ x4_1
     ·rw [if_pos c7] at H
      have c7b0 : decide (0 ≤ x4_1) = true := decide_eq_true c7
      clear c7
      by_cases c8 : x3_1.size + (rdOf ByteArray.empty l0 x4_1).size ≤ 9223372036854775807
      ·rw [if_pos c8] at H
       have c8b0 := eq_true c8
       have c8b1 : decide (x3_1.size + (rdOf ByteArray.empty l0 x4_1).size ≤ 9223372036854775807) = true := decide_eq_true c8
       try have c8b2 : (9223372036854775807 < x3_1.size + (rdOf ByteArray.empty l0 x4_1).size) = False := eq_false (Nat.not_lt.2 c8)
       have H' := Aside0.mk H
       clear H
       have p102 : 0 ≤ (x4_1 : Int) := of_decide_eq_true (by first | (with_reducible assumption) | assumption)
       have q102 : x4_1 < (l0.length : Int) := of_decide_eq_true (by first | (with_reducible assumption) | assumption)
       obtain ⟨ad102, e102, hx102_0⟩ := Kd.at_string HR0.out x4_1 p102 q102
       cases e102
       replace p102 := eq_true p102
       replace q102 := eq_true q102
       go_wp2
       go_roundg k1
       case measure => have := HK1.out; omega
       case rel => exact ⟨(x3_1 ++ (rdOf ByteArray.empty l0 x4_1)), (wrap64 (x4_1 + 1)), (by first | rfl | (simp; done) | (simp [*]; done)), (by first | rfl | (simp; done) | (simp [*]; done)), H', ⟨by have := HK1.out; omega⟩, by repeat (first | exact Drawn0.refl _ | apply Drawn0.step)⟩
      ·rw [if_neg c8] at H
       exact absurd H (by simp)
     ·rw [if_neg c7] at H
      exact absurd H (by simp)
   ·rw [if_neg c2] at H
    have c2b0 : decide (x4_1 < (l0.length : Int)) = false := decide_eq_false c2
    clear c2
    obtain rfl := Option.some.inj H
    go_wp2
    go_ret
    exact ⟨by first | rfl | (simp; done) | (simp [*]; done), by repeat (first | exact Drawn0.refl _ | apply Drawn0.step)⟩

/-! ### spec_l7Words: function 54 -/
mutual
def spec_l7Words.l0 : Nat → ByteArray → List ByteArray → ByteArray → Int → Option (List ByteArray)
 | 0, _, _, _, _ => none
 | k + 1, x0, x3, x4, x5 => if x5 ≤ (x0.size : Int) then (if x5 < (x0.size : Int) then (if 0 ≤ x5 then ((spec_l7Blank.f (bt x0 x5)).bind fun t106 => (spec_l7Words.j1 k x0 x3 x4 x5 (!t106))) else (none)) else (spec_l7Words.j1 k x0 x3 x4 x5 false)) else (some x3)
def spec_l7Words.j1 : Nat → ByteArray → List ByteArray → ByteArray → Int → Bool → Option (List ByteArray)
 | 0, _, _, _, _, _ => none
 | k + 1, x0, x3, x4, x5, x23 => if x23 = true then (if 0 ≤ x5 then (if x5 ≤ (wrap64 (x5 + 1)) then (if (wrap64 (x5 + 1)) ≤ (x0.size : Int) then (if x4.size + ((x0.extract (x5 : Int).toNat ((wrap64 (x5 + 1)) : Int).toNat).size) ≤ 9223372036854775807 then (spec_l7Words.l0 k x0 x3 (x4 ++ (x0.extract (x5 : Int).toNat ((wrap64 (x5 + 1)) : Int).toNat)) (wrap64 (x5 + 1))) else (none)) else (none)) else (none)) else (none)) else (if x4.toList = ([] : List UInt8) then (spec_l7Words.l0 k x0 x3 (⟨#[]⟩ : ByteArray) (wrap64 (x5 + 1))) else (if x3.length < 8796093022208 then (spec_l7Words.l0 k x0 (x3 ++ [x4]) (⟨#[]⟩ : ByteArray) (wrap64 (x5 + 1))) else (none)))
end
def spec_l7Words.f (k : Nat) (a0 : ByteArray) : Option (List ByteArray) := spec_l7Words.l0 k a0 (([] : List ByteArray)) (⟨#[]⟩ : ByteArray) 0
theorem spec_l7Words.mono_l : ∀ k, (∀ y0 y1 y2 y3, LeO (spec_l7Words.l0 k y0 y1 y2 y3) (spec_l7Words.l0 (k + 1) y0 y1 y2 y3)) ∧ (∀ y0 y1 y2 y3 y4, LeO (spec_l7Words.j1 k y0 y1 y2 y3 y4) (spec_l7Words.j1 (k + 1) y0 y1 y2 y3 y4))
 | 0 => ⟨fun _ _ _ _ r h => by simp [spec_l7Words.l0] at h, fun _ _ _ _ _ r h => by simp [spec_l7Words.j1] at h⟩
 | k + 1 => by
  obtain ⟨ih0, ih1⟩ := spec_l7Words.mono_l k
  refine ⟨?_, ?_⟩
  ·intro y0 y1 y2 y3
   unfold spec_l7Words.l0
   repeat' first
   | (with_reducible exact ih0 _ _ _ _)
   | (with_reducible exact ih1 _ _ _ _ _)
   | (with_reducible exact LeO.refl _)
   | (with_reducible exact LeO.none _)
   | (with_reducible refine LeO.ite ?_ ?_)
   | (with_reducible refine LeO.bind ?_ (fun _ => ?_))
   | exact ih0 _ _ _ _
   | exact ih1 _ _ _ _ _
   | exact LeO.none _
   | refine LeO.ite ?_ ?_
   | refine LeO.bind ?_ (fun _ => ?_)
  ·intro y0 y1 y2 y3 y4
   unfold spec_l7Words.j1
   repeat' first
   | (with_reducible exact ih0 _ _ _ _)
   | (with_reducible exact ih1 _ _ _ _ _)
   | (with_reducible exact LeO.refl _)
   | (with_reducible exact LeO.none _)
   | (with_reducible refine LeO.ite ?_ ?_)
   | (with_reducible refine LeO.bind ?_ (fun _ => ?_))
   | exact ih0 _ _ _ _
   | exact ih1 _ _ _ _ _
   | exact LeO.none _
   | refine LeO.ite ?_ ?_
   | refine LeO.bind ?_ (fun _ => ?_)
theorem spec_l7Words.mono : ∀ a0 k, LeO (spec_l7Words.f k a0) (spec_l7Words.f (k + 1) a0) := by
 intro a0 k
 obtain ⟨ih0, ih1⟩ := spec_l7Words.mono_l k
 unfold spec_l7Words.f
 repeat' first
   | (with_reducible exact ih0 _ _ _ _)
   | (with_reducible exact ih1 _ _ _ _ _)
   | (with_reducible exact LeO.refl _)
   | (with_reducible exact LeO.none _)
   | (with_reducible refine LeO.ite ?_ ?_)
   | (with_reducible refine LeO.bind ?_ (fun _ => ?_))
   | exact ih0 _ _ _ _
   | exact ih1 _ _ _ _ _
   | exact LeO.none _
   | refine LeO.ite ?_ ?_
   | refine LeO.bind ?_ (fun _ => ?_)
set_option maxHeartbeats 8000000 in
set_option maxRecDepth 100000 in
theorem spec_l7Words.calls (k : Nat) (a0 : ByteArray) (r : List ByteArray) (w : World) (h : spec_l7Words.f k a0 = some r) :
  Calls Try.prog 54 #[.string a0] w fun e w' => ∃ v0_ : Value, e = .returned (v0_) ∧ Kd.R Kd.string 9 w' w.heap.size (fun _ => True) v0_ r ∧ Below w.heap.size w w' := by
 have HB := Aside0.mk (Below.refl w.heap.size w)
 have H : (spec_l7Words.l0 k a0 (([] : List ByteArray)) (⟨#[]⟩ : ByteArray) 0) = some r := h
 clear h
 obtain ⟨y103, hy103⟩ : ∃ y_ : List ByteArray, y_ = (([] : List ByteArray)) := ⟨_, rfl⟩
 replace H : (spec_l7Words.l0 k a0 y103 (⟨#[]⟩ : ByteArray) 0) = some r := by first | (rw [hy103]; with_reducible exact H) | (have H2_ := (Option.bind_some _ _).symm.trans H; rw [hy103]; with_reducible exact H2_) | (have H2_ := (Option.bind_some _ _).symm.trans H; with_reducible exact H2_) | with_reducible exact H | (rw [hy103]; exact H) | exact H
 have Ny103 := Aside0.mk hy103
 clear hy103
 have H' := Aside0.mk H
 clear H
 go_enter Try.func54, Try.ntmps54
 go_wp2_with (first | ((with_reducible refine gate_dst (N := 6) rfl ?_); refine Kd.R_lit Kd.string _ 9 ?hg (N := 6) ?hd (xs := ([] : List ByteArray)) (inner := []) (ok := fun _ => True) (okp := fun _ => True) ?hr ?hp (fun _ hk => hk) trivial (Below.refl _ _) (Nat.le_refl _) (by simp) ?_; (case hd => rfl); (case hg => rfl); (case hr => first | (go_simp; done) | (go_simp; rfl)); (case hp => exact (Reps.none _ _)); intro v104 w2 ho3 hb hg_ hnew_; clear hg_ hnew_; (first | rw [← Ny103.out] at ho3 | (simp only [Int.reduceToNat] at ho3; rw [← Ny103.out] at ho3)); have n0_ := Aside0.mk (Kd.R_lower ho3 (below_size (by repeat (first | (with_reducible first | exact HB.out | apply below_alloc | apply pw_below_drewN | apply below_drew1) | exact HB.out)))); have n1_ := Aside0.mk (below_step (by repeat (first | (with_reducible first | exact HB.out | apply below_alloc | apply pw_below_drewN | apply below_drew1) | exact HB.out)) hb); clear HB; have HO105 := n0_; have HB := n1_; clear n0_ n1_; clear hb ho3))
 go_loopg [3, 4, 5] k (fun kq v3 v4 v5 w' => ∃ (x3_1 : List ByteArray) (x4_1 : ByteArray) (x5_1 : Int), v4 = .string x4_1 ∧ v5 = .int .i64 x5_1 ∧ Aside0 (spec_l7Words.l0 kq a0 x3_1 x4_1 x5_1 = some r) ∧ Aside0 (kq ≤ k) ∧ Aside0 (Kd.R Kd.string 9 w' w.heap.size (fun _ => True) v3 x3_1) ∧ Aside0 (Below w.heap.size w w'))
 case atStart => exact ⟨(y103), ((⟨#[]⟩ : ByteArray)), (0), (by first | rfl | (simp; done) | (simp [*]; done)), (by first | rfl | (simp; done) | (simp [*]; done)), H', ⟨Nat.le_refl _⟩, ⟨by (with_reducible repeat (first | apply Kd.R_alloc | apply Kd.R_drewN | apply Kd.R_drew)); exact HO105.out⟩, ⟨by repeat (first | (with_reducible first | exact HB.out | apply below_alloc | apply pw_below_drewN | apply below_drew1) | exact HB.out)⟩⟩
 case round =>
  clear H'
  try clear p2
  obtain ⟨x3_1, x4_1, x5_1, rfl, rfl, HA, HK1, HO_3, HB⟩ := hrel
  cases gk with
  | zero => exact absurd HA.out (by simp [spec_l7Words.l0])
  | succ k1 =>
   have H := HA.out
   clear HA
   simp only [spec_l7Words.l0] at H
   by_cases c4 : x5_1 ≤ (a0.size : Int)
   ·rw [if_pos c4] at H
    have c4b0 : decide (x5_1 ≤ (a0.size : Int)) = true := decide_eq_true c4
    clear c4
    have HC5 := Aside0.mk H
    clear H
    go_upto_region 6 with (fail)
    go_cut [23] (fun v23 wc => ∃ (kq : Nat) (x23_4 : Bool), v23 = .bool x23_4 ∧ Aside0 (spec_l7Words.j1 kq a0 x3_1 x4_1 x5_1 x23_4 = some r) ∧ Aside0 (kq ≤ k1) ∧ Aside0 (Kd.R Kd.string 9 wc w.heap.size (fun _ => True) u3 x3_1) ∧ Aside0 (Below w.heap.size w wc))
    case first =>
     have H := HC5.out
     clear HC5
     by_cases c6 : x5_1 < (a0.size : Int)
     ·rw [if_pos c6] at H
      have c6b0 : decide (x5_1 < (a0.size : Int)) = true := decide_eq_true c6
      clear c6
      (first | rw [c6b0] | (simp only [i64_w, i32_w]; rw [c6b0]) | skip)
      by_cases c7 : 0 ≤ x5_1
      ·rw [if_pos c7] at H
       have c7b0 : decide (0 ≤ x5_1) = true := decide_eq_true c7
       clear c7
       replace H := Option.bind_eq_some_iff.mp H
       obtain ⟨t106, A90, H⟩ := H
       replace H : (spec_l7Words.j1 k1 a0 x3_1 x4_1 x5_1 (!t106)) = some r := H
       have A9 := Aside0.mk A90
       clear A90
       have H' := Aside0.mk H
       clear H
       have p8 : 0 ≤ (x5_1 : Int) := of_decide_eq_true (by first | (with_reducible assumption) | assumption)
       have q8 : x5_1 < (a0.size : Int) := of_decide_eq_true (by first | (with_reducible assumption) | assumption)
       have hx8 := bt_at a0 x5_1
       replace p8 := eq_true p8
       replace q8 := eq_true q8
       go_wp2_with (first | (go_at_call 52; (with_reducible refine (spec_l7Blank.calls (bt a0 x5_1) t106 _ A9.out).mono ?_); rintro e w' ⟨rfl, ⟨nd, rfl⟩⟩))
       go_meet
       case rel => exact ⟨_, (!t106), (by first | rfl | (simp; done) | (simp [*]; done)), H', ⟨by have := HK1.out; first | omega | exact Nat.le_refl _⟩, ⟨by (with_reducible repeat (first | apply Kd.R_alloc | apply Kd.R_drewN | apply Kd.R_drew)); exact HO_3.out⟩, ⟨by repeat (first | (with_reducible first | exact HB.out | apply below_alloc | apply pw_below_drewN | apply below_drew1) | exact HB.out)⟩⟩
      ·rw [if_neg c7] at H
       exact absurd H (by simp)
     ·rw [if_neg c6] at H
      have c6b0 : decide (x5_1 < (a0.size : Int)) = false := decide_eq_false c6
      clear c6
      (first | rw [c6b0] | (simp only [i64_w, i32_w]; rw [c6b0]) | skip)
      have H' := Aside0.mk H
      clear H
      go_wp2
      go_meet
      case rel => exact ⟨_, (false), (by first | rfl | (simp; done) | (simp [*]; done)), H', ⟨by have := HK1.out; first | omega | exact Nat.le_refl _⟩, ⟨by (with_reducible repeat (first | apply Kd.R_alloc | apply Kd.R_drewN | apply Kd.R_drew)); exact HO_3.out⟩, ⟨by repeat (first | (with_reducible first | exact HB.out | apply below_alloc | apply pw_below_drewN | apply below_drew1) | exact HB.out)⟩⟩
    case rest =>
     clear HC5
     try clear p2
     try clear c4
     try clear c4b0
     try clear c5
     try clear c6
     try clear c6b0
     try clear c7
     try clear c7b0
     try clear p8
     try clear q8
     try clear hx8
     try clear p2
     try clear p8
     try clear q8
     obtain ⟨kq, x23_4, rfl, HA, HJ4, HO_3, HB⟩ := hcut
     cases kq with
     | zero => exact absurd HA.out (by simp [spec_l7Words.j1])
     | succ kj4 =>
      have H := HA.out
      clear HA
      simp only [spec_l7Words.j1] at H
      by_cases c10 : x23_4 = true
      ·subst c10
       have H1 : (if 0 ≤ x5_1 then (if x5_1 ≤ (wrap64 (x5_1 + 1)) then (if (wrap64 (x5_1 + 1)) ≤ (a0.size : Int) then (if x4_1.size + ((a0.extract (x5_1 : Int).toNat ((wrap64 (x5_1 + 1)) : Int).toNat).size) ≤ 9223372036854775807 then (spec_l7Words.l0 kj4 a0 x3_1 (x4_1 ++ (a0.extract (x5_1 : Int).toNat ((wrap64 (x5_1 + 1)) : Int).toNat)) (wrap64 (x5_1 + 1))) else (none)) else (none)) else (none)) else (none)) = some r := by rw [if_pos rfl] at H; exact H
       clear H
       have H := H1
       clear H1
       by_cases c11 : 0 ≤ x5_1
       ·rw [if_pos c11] at H
        have c11b0 := eq_true c11
        have c11b1 : decide (0 ≤ x5_1) = true := decide_eq_true c11
        clear c11
        by_cases c12 : x5_1 ≤ (wrap64 (x5_1 + 1))
        ·rw [if_pos c12] at H
         have c12b0 := eq_true c12
         have c12b1 : decide (x5_1 ≤ (wrap64 (x5_1 + 1))) = true := decide_eq_true c12
         by_cases c13 : (wrap64 (x5_1 + 1)) ≤ (a0.size : Int)
         ·rw [if_pos c13] at H
          have c13b0 := eq_true c13
          have c13b1 : decide ((wrap64 (x5_1 + 1)) ≤ (a0.size : Int)) = true := decide_eq_true c13
          by_cases c14 : x4_1.size + ((a0.extract (x5_1 : Int).toNat ((wrap64 (x5_1 + 1)) : Int).toNat).size) ≤ 9223372036854775807
          ·rw [if_pos c14] at H
           have c14b0 := eq_true c14
           have c14b1 : decide (x4_1.size + ((a0.extract (x5_1 : Int).toNat ((wrap64 (x5_1 + 1)) : Int).toNat).size) ≤ 9223372036854775807) = true := decide_eq_true c14
           try have c14b2 : (9223372036854775807 < x4_1.size + ((a0.extract (x5_1 : Int).toNat ((wrap64 (x5_1 + 1)) : Int).toNat).size)) = False := eq_false (Nat.not_lt.2 c14)
           have H' := Aside0.mk H
           clear H
           go_wp2
           go_roundg kj4
           case measure => have := HK1.out; have := HJ4.out; omega
           case rel => exact ⟨(x3_1), (x4_1 ++ (a0.extract (x5_1 : Int).toNat ((wrap64 (x5_1 + 1)) : Int).toNat)), (wrap64 (x5_1 + 1)), (by first | rfl | (simp; done) | (simp [*]; done)), (by first | rfl | (simp; done) | (simp [*]; done)), H', ⟨by have := HK1.out; have := HJ4.out; omega⟩, ⟨by (with_reducible repeat (first | apply Kd.R_alloc | apply Kd.R_drewN | apply Kd.R_drew)); exact HO_3.out⟩, ⟨by repeat (first | (with_reducible first | exact HB.out | apply below_alloc | apply pw_below_drewN | apply below_drew1) | exact HB.out)⟩⟩
          ·rw [if_neg c14] at H
           exact absurd H (by simp)
         ·rw [if_neg c13] at H
          exact absurd H (by simp)
        ·rw [if_neg c12] at H
         exact absurd H (by simp)
       ·rw [if_neg c11] at H
        exact absurd H (by simp)
      ·replace c10 := Bool.eq_false_iff.mpr c10
       subst c10
       have H1 : (if x4_1.toList = ([] : List UInt8) then (spec_l7Words.l0 kj4 a0 x3_1 (⟨#[]⟩ : ByteArray) (wrap64 (x5_1 + 1))) else (if x3_1.length < 8796093022208 then (spec_l7Words.l0 kj4 a0 (x3_1 ++ [x4_1]) (⟨#[]⟩ : ByteArray) (wrap64 (x5_1 + 1))) else (none))) = some r := by rw [if_neg (show ¬ (false = true) by decide)] at H; exact H
       clear H
       have H := H1
       clear H1
       by_cases c15 : x4_1.toList = ([] : List UInt8)
       ·rw [if_pos c15] at H
        have c15b0 : (x4_1.toList == ([] : List UInt8)) = true := beq_iff_eq.mpr c15
        have c15b1 : (x4_1.toList != ([] : List UInt8)) = false := bne_eq_false_iff_eq.mpr c15
        have c15b2 : (x4_1).toList.isEmpty = true := by (first | exact (List.isEmpty_iff.mpr (eq_of_beq c15b0)) | exact (Bool.eq_false_iff.mpr (fun h_ => by rw [List.isEmpty_iff.mp h_] at c15b0; cases c15b0)))
        clear c15
        have H' := Aside0.mk H
        clear H
        go_wp2
        go_roundg kj4
        case measure => have := HK1.out; have := HJ4.out; omega
        case rel => exact ⟨(x3_1), ((⟨#[]⟩ : ByteArray)), (wrap64 (x5_1 + 1)), (by first | rfl | (simp; done) | (simp [*]; done)), (by first | rfl | (simp; done) | (simp [*]; done)), H', ⟨by have := HK1.out; have := HJ4.out; omega⟩, ⟨by (with_reducible repeat (first | apply Kd.R_alloc | apply Kd.R_drewN | apply Kd.R_drew)); exact HO_3.out⟩, ⟨by repeat (first | (with_reducible first | exact HB.out | apply below_alloc | apply pw_below_drewN | apply below_drew1) | exact HB.out)⟩⟩
       ·rw [if_neg c15] at H
        have c15b0 : (x4_1.toList == ([] : List UInt8)) = false := beq_eq_false_iff_ne.mpr c15
        have c15b1 : (x4_1.toList != ([] : List UInt8)) = true := bne_iff_ne.mpr c15
        have c15b2 : (x4_1).toList.isEmpty = false := by (first | exact (List.isEmpty_iff.mpr (eq_of_beq c15b0)) | exact (Bool.eq_false_iff.mpr (fun h_ => by rw [List.isEmpty_iff.mp h_] at c15b0; cases c15b0)))
        by_cases c16 : x3_1.length < 8796093022208
        ·rw [if_pos c16] at H
         have LMc16 := Aside0.mk c16
         clear c16
         obtain ⟨y107, hy107⟩ : ∃ y_ : List ByteArray, y_ = (x3_1 ++ [x4_1]) := ⟨_, rfl⟩
         replace H : (spec_l7Words.l0 kj4 a0 y107 (⟨#[]⟩ : ByteArray) (wrap64 (x5_1 + 1))) = some r := by first | (rw [hy107]; with_reducible exact H) | (have H2_ := (Option.bind_some _ _).symm.trans H; rw [hy107]; with_reducible exact H2_) | (have H2_ := (Option.bind_some _ _).symm.trans H; with_reducible exact H2_) | with_reducible exact H | (rw [hy107]; exact H) | exact H
         have Ny107 := Aside0.mk hy107
         clear hy107
         have H' := Aside0.mk H
         clear H
         go_wp2_with (first | ((with_reducible refine gate_builtin (b := .append) (xs := #[.tmp 33, .tmp 35]) rfl ?_); at_builtin; refine Kd.R_append Kd.string (w0 := w) w.heap.size rfl (.tmp 33) (.tmp 35) 29 9 (.string ⟨#[]⟩) 16 rfl Try.underlying29 info9 rfl (by decide) (by omega) u3 x3_1 x4_1 [.string x4_1] (fun _ => True) (fun _ => False) rfl rfl ?aP (fun _ hk => hk.elim) ?aF ?aO ?aB ?aS ?aL ?_; (case aP => exact rfl); (case aB => exact (by repeat (first | (with_reducible first | exact HB.out | apply below_alloc | apply pw_below_drewN | apply below_drew1) | exact HB.out))); (case aF => exact (fun _ _ => trivial)); (case aO => exact (by (with_reducible repeat (first | apply Kd.R_alloc | apply Kd.R_drewN | apply Kd.R_drew)); exact HO_3.out)); (case aS => exact (below_size (by repeat (first | (with_reducible first | exact HB.out | apply below_alloc | apply pw_below_drewN | apply below_drew1) | exact HB.out)))); (case aL => have := LMc16.out; omega); intro v108 w17 ho hb hg hat; rw [← Ny107.out] at ho; have n0_ := Aside0.mk (hb); have n1_ := Aside0.mk (ho); clear HB; clear HO_3; have HB := n0_; have HO109 := n1_; clear n0_ n1_; clear ho hb hg hat))
         go_roundg kj4
         case measure => have := HK1.out; have := HJ4.out; omega
         case rel => exact ⟨(y107), ((⟨#[]⟩ : ByteArray)), (wrap64 (x5_1 + 1)), (by first | rfl | (simp; done) | (simp [*]; done)), (by first | rfl | (simp; done) | (simp [*]; done)), H', ⟨by have := HK1.out; have := HJ4.out; omega⟩, ⟨by (with_reducible repeat (first | apply Kd.R_alloc | apply Kd.R_drewN | apply Kd.R_drew)); exact HO109.out⟩, ⟨by repeat (first | (with_reducible first | exact HB.out | apply below_alloc | apply pw_below_drewN | apply below_drew1) | exact HB.out)⟩⟩
        ·rw [if_neg c16] at H
         exact absurd H (by simp)
   ·rw [if_neg c4] at H
    have c4b0 : decide (x5_1 ≤ (a0.size : Int)) = false := decide_eq_false c4
    clear c4
    obtain rfl := Option.some.inj H
    go_wp2
    go_ret
    exact ⟨_, by first | rfl | (simp only [show ∀ l_ : List UInt8, (l_ != []) = !l_.isEmpty from fun l_ => by cases l_ <;> rfl, show ∀ l_ : List UInt8, (l_ == []) = l_.isEmpty from fun l_ => by cases l_ <;> rfl]; rfl) | (simp [*] <;> rfl), by (with_reducible repeat (first | apply Kd.R_alloc | apply Kd.R_drewN | apply Kd.R_drew)); exact HO_3.out, by repeat (first | (with_reducible first | exact HB.out | apply below_alloc | apply pw_below_drewN | apply below_drew1) | exact HB.out)⟩

/-! ### spec_White: function 27 -/
def spec_White.isB (b : Nat) : Bool := b == 32 || b == 9 || b == 10 || b == 13
def spec_White.tb (b : Nat) : Nat := if spec_White.isB b = true then 32 else b
def spec_White.f (k : Nat) (a0 : ByteArray) (a1 : Int) : Option ByteArray := if a1 = 1 then (if a0.size ≤ 1073741824 then some (Go.Proofs.YtaliphegdclkfaaW.BytM.mapS spec_White.tb a0) else none) else (if a1 = 2 then ((spec_l7Words.f k a0).bind fun t => spec_l7Join.f k t) else some a0)
theorem spec_White.mono : ∀ a0 a1 k, LeO (spec_White.f k a0 a1) (spec_White.f (k + 1) a0 a1) := by
  intro a0 a1 k
  unfold spec_White.f
  repeat' first
    | (with_reducible exact spec_l7Words.mono _ _)
    | (with_reducible exact spec_l7Join.mono _ _)
    | (with_reducible exact LeO.refl _)
    | (with_reducible exact LeO.none _)
    | (with_reducible refine LeO.ite ?_ ?_)
    | (with_reducible refine LeO.bind ?_ (fun _ => ?_))
theorem spec_White.blank (b : Nat) : spec_l7Blank.f (b : Int) = some (spec_White.isB b) := by
  unfold spec_l7Blank.f spec_White.isB
  by_cases c1 : b = 32
  · rw [if_pos (by omega), c1]; rfl
  · rw [if_neg (by omega)]
    by_cases c2 : b = 9
    · rw [if_pos (by omega), c2]; rfl
    · rw [if_neg (by omega)]
      by_cases c3 : b = 10
      · rw [if_pos (by omega), c3]; rfl
      · rw [if_neg (by omega)]
        have e : ((b : Int) == 13) = (b == 13) := by rw [Bool.eq_iff_iff, beq_iff_eq, beq_iff_eq]; omega
        rw [e]
        simp [c1, c2, c3]
def spec_White.Row (w' : World) (G : Nat) (s : ByteArray) (k : Nat) : Prop := ∀ j (h : j < s.size), w'.cell? ⟨G, j, none⟩ = some (.int .u8 ((if j < k then spec_White.tb (s[j]'h).toNat else (s[j]'h).toNat : Nat) : Int)) ∧ w'.frozen? ⟨G, j, none⟩ = false
theorem spec_White.turn {w' : World} {G : Nat} {s : ByteArray} {k : Nat} (hk : k < s.size) (h : spec_White.Row w' G s k) (hb : spec_White.isB (s[k]'hk).toNat = true) : spec_White.Row (w'.setCell ⟨G, k, none⟩ (.int .u8 32)) G s (k + 1) := by
  intro j hj
  obtain ⟨h4, h5⟩ := h j hj
  refine ⟨?_, by rw [World.frozen?_setCell]; exact h5⟩
  by_cases e : j = k
  · subst e
    rw [World.cell?_setCell_same _ _ _ h4, if_pos (by omega)]
    unfold spec_White.tb
    rw [if_pos hb]
    rfl
  · rw [World.cell?_setCell_other _ _ _ _ (by simp [e]), h4]
    by_cases e2 : j < k
    · rw [if_pos e2, if_pos (by omega)]
    · rw [if_neg e2, if_neg (by omega)]
theorem spec_White.stay {w' : World} {G : Nat} {s : ByteArray} {k : Nat} (hk : k < s.size) (h : spec_White.Row w' G s k) (hb : spec_White.isB (s[k]'hk).toNat = false) : spec_White.Row w' G s (k + 1) := by
  intro j hj
  obtain ⟨h4, h5⟩ := h j hj
  refine ⟨?_, h5⟩
  rw [h4]
  by_cases e : j = k
  · subst e
    rw [if_neg (by omega), if_pos (by omega)]
    unfold spec_White.tb
    rw [if_neg (by rw [hb]; decide)]
  · by_cases e2 : j < k
    · rw [if_pos e2, if_pos (by omega)]
    · rw [if_neg e2, if_neg (by omega)]
theorem spec_White.drawn {w w' : World} {G k : Nat} {s : ByteArray} (h : spec_White.Row w G s k) (d : Drawn0 w w') : spec_White.Row w' G s k := by
  obtain ⟨n, rfl⟩ := d.out
  exact h
theorem spec_White.small (b : Nat) (h : b < 256) : spec_White.tb b < 256 := by
  unfold spec_White.tb
  split <;> omega
set_option maxHeartbeats 4000000 in
set_option maxRecDepth 100000 in
theorem spec_White.calls (k : Nat) (a0 : ByteArray) (a1 : Int) (r : ByteArray) (w : World) (h : spec_White.f k a0 a1 = some r) :
    Calls Try.prog 27 #[.string a0, .int .i64 a1] w fun e w' => e = .returned (.string r) ∧ Below w.heap.size w w' := by
  unfold spec_White.f at h
  by_cases h1 : a1 = 1
  · rw [if_pos h1] at h
    split at h
    · rename_i hs
      obtain rfl := Option.some.inj h
      have HS := Aside0.mk hs
      clear h hs
      subst h1
      have kb := fun W => print_bytes (P := Try.prog) 9 63 5 Try.underlying9 Try.underlying63 Try.underlying5 a0 W
      go_enter Try.func27, Try.ntmps27
      go_wp2
      have HR0 : Aside0 (spec_White.Row (Lib.bytesWorld w 5 a0) w.heap.size a0 0) := ⟨fun j hj => by
        have h4 := Go.Proofs.YtaliphegdclkfaaW.BytM.bytes_ready w 5 a0 j hj
        rw [if_neg (by omega)]
        exact h4⟩
      have HB0 := Aside0.mk (bytes_below (Below.refl w.heap.size w) (Nat.le_refl _) 5 a0)
      clear kb
      generalize Lib.bytesWorld w 5 a0 = W0 at *
      generalize hcap : grownCap w a0.size 0 5 = cap at *
      obtain ⟨G, hG⟩ : ∃ G, G = w.heap.size := ⟨_, rfl⟩
      rw [← hG] at HR0 ⊢
      have HGG := Aside0.mk hG
      clear hcap hG
      go_loopg [6] (a0.size + 1) (fun kq v6 w' => ∃ (j : Nat), v6 = .int .i64 (j : Int) ∧ Aside0 (j ≤ a0.size ∧ a0.size < kq + j) ∧ Aside0 (spec_White.Row w' G a0 j) ∧ Aside0 (Below w.heap.size w w'))
      case atStart => exact ⟨0, rfl, ⟨by omega, by omega⟩, HR0, HB0⟩
      case round =>
        obtain ⟨j, rfl, HJ, HR, HB⟩ := hrel
        by_cases hj : j < a0.size
        · have hrd := HR.out j hj
          rw [if_neg (by omega)] at hrd
          have hr1 := hrd.1
          have p1 := eq_true (show (0 : Int) ≤ ((j : Nat) : Int) by omega)
          have q1 := eq_true (show ((j : Nat) : Int) < (a0.size : Int) by omega)
          have q2 := eq_true (show j < a0.size from hj)
          have c2 : decide (((j : Nat) : Int) < (a0.size : Int)) = true := decide_eq_true (by omega)
          have HW1 : Aside0 (wrap64 (((j : Nat) : Int) + 1) = ((j + 1 : Nat) : Int)) := ⟨by have := HS.out; unfold wrap64; omega⟩
          have HJ1 := Aside0.mk hj
          cases hb : spec_White.isB (a0[j]'hj).toNat with
          | true =>
            have hbl := spec_White.blank (a0[j]'hj).toNat
            rw [hb] at hbl
            have HBL := Aside0.mk hbl
            have HBB := Aside0.mk hb
            clear hbl hb hrd
            go_wp2_with (go_at_call 52; refine (spec_l7Blank.calls _ true _ HBL.out).mono ?_; rintro e w1 ⟨rfl, hd⟩; have hc1 := (spec_White.drawn HR.out hd j HJ1.out).1; have hf1 := (spec_White.drawn HR.out hd j HJ1.out).2; have HD := Aside0.mk hd; clear hd)
            go_roundg (a0.size - j)
            case measure => have := HJ1.out; have := HJ.out; omega
            case rel =>
              refine ⟨j + 1, by rw [HW1.out], ⟨by have := HJ1.out; omega, by have := HJ.out; have := HJ1.out; omega⟩, ⟨spec_White.turn HJ1.out (spec_White.drawn HR.out HD.out) HBB.out⟩, ⟨Go.Proofs.YtaliphegdclkfaaW.ReplM.set_below (HB.out.trans (HD.out.below.mono HB.out.size)) G j (by rw [HGG.out]; exact Nat.le_refl _) _⟩⟩
          | false =>
            have hbl := spec_White.blank (a0[j]'hj).toNat
            rw [hb] at hbl
            have HBL := Aside0.mk hbl
            have HBB := Aside0.mk hb
            clear hbl hb hrd
            go_wp2_with (go_at_call 52; refine (spec_l7Blank.calls _ false _ HBL.out).mono ?_; rintro e w1 ⟨rfl, hd⟩; have HD := Aside0.mk hd; clear hd)
            go_roundg (a0.size - j)
            case measure => have := HJ1.out; have := HJ.out; omega
            case rel =>
              refine ⟨j + 1, by rw [HW1.out], ⟨by have := HJ1.out; omega, by have := HJ.out; have := HJ1.out; omega⟩, ⟨spec_White.drawn (spec_White.stay HJ1.out HR.out HBB.out) HD.out⟩, ⟨HB.out.trans (HD.out.below.mono HB.out.size)⟩⟩
        · have hje : j = a0.size := by have := HJ.out; omega
          subst hje
          have hrd := Go.Proofs.YtaliphegdclkfaaW.BytM.mapS_reads wr G spec_White.tb spec_White.small a0 HS.out (fun j h => by
            have := (HR.out j h).1
            rw [if_pos h] at this
            exact this)
          have kc : (convert 63 9 (.slice (some ⟨G, 0, none⟩) a0.size cap)).run Try.prog wr = .ok (.string (Go.Proofs.YtaliphegdclkfaaW.BytM.mapS spec_White.tb a0)) wr := by
            rw [string_of_reads Try.underlying63 Try.underlying5 Try.underlying9 hrd, Go.Proofs.YtaliphegdclkfaaW.ReplM.strOfNums_bytes]
          clear hrd hj
          go_wp2
          go_ret
          exact ⟨rfl, HB.out⟩
    · cases h
  · rw [if_neg h1] at h
    by_cases h2 : a1 = 2
    · rw [if_pos h2] at h
      obtain ⟨t, ht, h⟩ := Option.bind_eq_some_iff.1 h
      have HT := Aside0.mk ht
      have HJ := Aside0.mk h
      clear ht h h1
      subst h2
      go_enter Try.func27, Try.ntmps27
      go_wp2_with (first | (go_at_call 54; refine (spec_l7Words.calls k a0 t w HT.out).mono ?_; rintro e w1 ⟨v, rfl, hv, hb⟩; obtain ⟨A, c, rfl, hle, hc⟩ := Kd.R_reads hv; have HC := Aside0.mk hc; have HL := Aside0.mk hle; have HB := Aside0.mk hb; clear hv hle hc hb) | (go_at_call 53; refine (spec_l7Join.calls k A c t r w1 HC.out HL.out HJ.out).mono ?_; rintro e w2 ⟨rfl, hd⟩; have HD := Aside0.mk hd; clear hd))
      go_ret
      exact ⟨rfl, HB.out.trans (HD.out.below.mono HB.out.size)⟩
    · rw [if_neg h2] at h
      obtain rfl := Option.some.inj h
      have c1 : (a1 == 1) = false := beq_eq_false_iff_ne.2 h1
      have c2 : (a1 == 2) = false := beq_eq_false_iff_ne.2 h2
      clear h h1 h2
      go_enter Try.func27, Try.ntmps27
      go_wp2
      go_ret
      exact ⟨rfl, Below.refl _ _⟩

/-! ### strings_Join: function 57 -/
def strings_Join.f (l0 : List ByteArray) (a1 : ByteArray) : Option (ByteArray) := if l0.length ≤ 140737488355328 ∧ (Lib.join (l0.map (·.data.toList)) a1.data.toList).length ≤ 140737488355328 then some ⟨(Lib.join (l0.map (·.data.toList)) a1.data.toList).toArray⟩ else none
theorem strings_Join.calls (A0 : Option Addr) (c0 : Nat) (l0 : List ByteArray) (a1 : ByteArray) (r : ByteArray) (w : World) (hr0 : Kd.C Kd.string w A0 l0.length l0) (hc0 : l0.length ≤ c0) (h : strings_Join.f l0 a1 = some r) :
    Calls Try.prog 57 #[.slice A0 l0.length c0, .string a1] w fun e w' => e = .returned (.string r) ∧ Below w.heap.size w w' := by
  unfold strings_Join.f at h
  split at h
  · rename_i hh
    obtain ⟨hN, hlen⟩ := hh
    obtain rfl := Option.some.inj h
    rcases Nat.eq_zero_or_pos l0.length with h0 | h0
    · obtain rfl := List.eq_nil_of_length_eq_zero h0
      exact (Try.strings_Join_none A0 c0 a1 w).mono fun e w' ⟨he, hw⟩ => ⟨he, hw ▸ Below.refl _ _⟩
    · obtain ⟨ad, rfl, hc⟩ := hr0.2.2 h0
      obtain ⟨bk, o, sp⟩ := ad
      have hcell : ∀ j x, l0[j]? = some x → w.cell? ((⟨bk, o, sp⟩ : Addr).add j) = some (.string x) := fun j x hj => by
        obtain ⟨c, hs, hR, hu⟩ := hc j x hj
        have hR' : c = [.string x] := hR
        subst hR'
        have := hu 0 _ rfl
        simpa [Kd.string, Kd.scalar] using this
      have hb0 := hcell 0 _ (List.getElem?_eq_getElem h0)
      have hsp : sp = none := by
        cases sp with
        | none => rfl
        | some s =>
          exfalso
          revert hb0
          simp only [World.cell?, Addr.add]
          split <;> simp
      subst hsp
      exact Try.strings_Join bk o c0 l0 a1 w (fun j x hj => by have := hcell j x hj; rwa [add_at] at this) (World.block_lt_of_cell? w _ hb0) hN hc0 hlen
  · cases h

/-! ### impl_wordsOf: function 58 -/
def impl_wordsOf.blank (r : Nat) : Bool := r == 32 || r == 9 || r == 10 || r == 13
def impl_wordsOf.f (a0 : ByteArray) : Option (List ByteArray) := if a0.size ≤ 4294967296 then some (Lib.goFieldsP impl_wordsOf.blank a0) else none
set_option maxHeartbeats 4000000 in
set_option maxRecDepth 100000 in
theorem impl_wordsOf.pred (w : World) : PredAtRunes Try.prog 79 #[] impl_wordsOf.blank w := by
  intro W x hx hb
  show Calls Try.prog 79 #[.int .i32 (x : Int)] W _
  have c1 : ((x : Int) == 32) = (x == 32) := by rw [Bool.eq_iff_iff, beq_iff_eq, beq_iff_eq]; omega
  have c2 : ((x : Int) == 9) = (x == 9) := by rw [Bool.eq_iff_iff, beq_iff_eq, beq_iff_eq]; omega
  have c3 : ((x : Int) == 10) = (x == 10) := by rw [Bool.eq_iff_iff, beq_iff_eq, beq_iff_eq]; omega
  have c4 : ((x : Int) == 13) = (x == 13) := by rw [Bool.eq_iff_iff, beq_iff_eq, beq_iff_eq]; omega
  clear hb hx
  unfold impl_wordsOf.blank
  generalize (x == 32) = b1 at *
  generalize (x == 9) = b2 at *
  generalize (x == 10) = b3 at *
  generalize (x == 13) = b4 at *
  generalize (x : Int) = X at *
  cases b1 <;> cases b2 <;> cases b3 <;> cases b4 <;> (
    go_enter Try.func79, Try.ntmps79
    go_wp2
    go_ret
    exact ⟨rfl, 0, rfl⟩)
theorem impl_wordsOf.own {w : World} {t base : Nat} {v : Value} {xs : List ByteArray} (h : w.ownsRow base t 1 v xs.length (xs.map Value.string)) : Kd.R Kd.string t w base (fun _ => True) v xs :=
  ⟨fun _ _ => trivial, xs.map Value.string, h, Kd.reps_scalar (enc := Value.string) xs⟩
set_option maxHeartbeats 4000000 in
set_option maxRecDepth 100000 in
theorem impl_wordsOf.calls (a0 : ByteArray) (r : List ByteArray) (w : World) (h : impl_wordsOf.f a0 = some r) :
    Calls Try.prog 58 #[.string a0] w fun e w' => ∃ v0_ : Value, e = .returned v0_ ∧ Kd.R Kd.string 9 w' w.heap.size (fun _ => True) v0_ r ∧ Below w.heap.size w w' := by
  unfold impl_wordsOf.f at h
  split at h
  · rename_i hs
    obtain rfl := Option.some.inj h
    clear h
    have hc := Try.strings_FieldsFunc_runes 79 #[] (enters_of Try.func79 (by kernel_rfl) rfl) impl_wordsOf.blank a0 w hs (impl_wordsOf.pred w)
    have HCC := Aside0.mk hc
    clear hc
    go_enter Try.func58, Try.ntmps58
    go_wp2_with (go_at_call 78; refine HCC.out.mono ?_; rintro e w1 ⟨A, rfl, hA, hown, hb⟩; have HO := Aside0.mk hown; have HB := Aside0.mk hb; clear hown hb)
    go_ret
    exact ⟨_, rfl, impl_wordsOf.own HO.out, HB.out⟩
  · cases h

/-! ### impl_White: function 28 -/
def impl_White.strs6 : List ByteArray := [⟨#[9]⟩, ⟨#[32]⟩, ⟨#[10]⟩, ⟨#[32]⟩, ⟨#[13]⟩, ⟨#[32]⟩]
def impl_White.flat (s : ByteArray) : ByteArray := Go.Proofs.YtaliphegdclkfaaW.BytM.mapS (Go.Proofs.YtaliphegdclkfaaW.BytM.btabOf impl_White.strs6 3 3) s
def impl_White.f (a0 : ByteArray) (a1 : Int) : Option ByteArray := if a1 = 1 then (if a0.size ≤ 1073741824 then some (impl_White.flat a0) else none) else (if a1 = 2 then ((impl_wordsOf.f a0).bind fun t => strings_Join.f t (⟨#[32]⟩ : ByteArray)) else some a0)
theorem impl_White.tab (b : Nat) : Go.Proofs.YtaliphegdclkfaaW.BytM.btabOf impl_White.strs6 3 3 b = if b = 9 then 32 else if b = 10 then 32 else if b = 13 then 32 else b := rfl
theorem impl_White.lit {W : World} {G : Nat} {t : TypeId} {cur : Array Value} (xs : List ByteArray) (hl : xs.length ≤ 1000) (hg : W.heap[G]? = some (.cells cur t (0, 0))) (hc : ∀ (j : Nat) (x : ByteArray), xs[j]? = some x → cur[j]? = some (Value.string x)) : Kd.string.C W (some ⟨G, 0, none⟩) xs.length xs := by
  refine ⟨rfl, by omega, fun _ => ⟨_, rfl, fun j p hj => ⟨[Value.string p], rfl, rfl, fun i v hi => ?_⟩⟩⟩
  obtain rfl : i = 0 := by
    have := (List.getElem?_eq_some_iff.1 hi).1
    simp at this
    exact this
  injection hi with hi
  subst hi
  rw [add_plain]
  unfold World.cell?
  dsimp only
  rw [hg]
  show cur[j * 1 + 0]? = _
  rw [Nat.mul_one]
  exact hc j p hj
theorem impl_White.chain {w w2 w3 : World} {b : Nat} {o : Obj} (h2 : Below (w.alloc o).heap.size (w.alloc o) w2) (hb : (w.alloc o).heap.size ≤ b) (h3 : Below b w2 w3) : Below w.heap.size w w3 := by
  have h1 := below_alloc (Below.refl w.heap.size w) o
  exact (h1.trans (h2.mono h1.size)).trans (h3.mono (Nat.le_trans h1.size hb))
theorem impl_White.olds : ∀ j : Nat, j < 3 → (rdOf ByteArray.empty impl_White.strs6 ((2 * j : Nat) : Int)).size = 1 := by decide
theorem impl_White.news : ∀ j : Nat, j < 3 → (rdOf ByteArray.empty impl_White.strs6 ((2 * j + 1 : Nat) : Int)).size = 1 := by decide
theorem impl_White.small (k : Nat) (h : k < 256) : Go.Proofs.YtaliphegdclkfaaW.BytM.btabOf impl_White.strs6 3 3 k < 256 := by
  rw [impl_White.tab]
  repeat' split
  all_goals omega
set_option maxHeartbeats 4000000 in
set_option maxRecDepth 100000 in
theorem impl_White.calls (a0 : ByteArray) (a1 : Int) (r : ByteArray) (w : World) (h : impl_White.f a0 a1 = some r) :
    Calls Try.prog 28 #[.string a0, .int .i64 a1] w fun e w' => e = .returned (.string r) ∧ Below w.heap.size w w' := by
  unfold impl_White.f at h
  by_cases h1 : a1 = 1
  · rw [if_pos h1] at h
    split at h
    · rename_i hs
      obtain rfl := Option.some.inj h
      have HS := Aside0.mk hs
      clear h hs
      subst h1
      go_enter Try.func28, Try.ntmps28
      go_wp2_with (first | (go_at_call 55; refine (Go.Proofs.YtaliphegdclkfaaW.BytM.newReplacer _ 6 3 impl_White.strs6 _ (impl_White.lit impl_White.strs6 (by decide) (blk_new w _) ?lit) rfl (by decide)).mono ?_; (case lit => intro j x hj; match j with | 0 => exact congrArg (Option.map Value.string) hj | 1 => exact congrArg (Option.map Value.string) hj | 2 => exact congrArg (Option.map Value.string) hj | 3 => exact congrArg (Option.map Value.string) hj | 4 => exact congrArg (Option.map Value.string) hj | 5 => exact congrArg (Option.map Value.string) hj | j + 6 => cases hj); rintro e w2 ⟨b, v, rfl, hb, hh, hr, hb2⟩; have HH := Aside0.mk hh; have HR := Aside0.mk hr; have HB2 := Aside0.mk hb2; have HBL := Aside0.mk hb; clear hh hr hb2 hb) | (go_at_call 56; refine (Go.Proofs.YtaliphegdclkfaaW.BytM.wholeB b _ 3 v impl_White.strs6 a0 w2 HH.out HR.out rfl (by decide) (by decide) impl_White.olds impl_White.news impl_White.small HS.out).mono ?_; rintro e w3 ⟨rfl, hb3⟩; have HB3 := Aside0.mk hb3; clear hb3))
      go_ret
      exact ⟨rfl, impl_White.chain HB2.out HBL.out HB3.out⟩
    · cases h
  · rw [if_neg h1] at h
    by_cases h2 : a1 = 2
    · rw [if_pos h2] at h
      obtain ⟨t, ht, h⟩ := Option.bind_eq_some_iff.1 h
      have HT := Aside0.mk ht
      have HJ := Aside0.mk h
      clear ht h h1
      subst h2
      go_enter Try.func28, Try.ntmps28
      go_wp2_with (first | (go_at_call 58; refine (impl_wordsOf.calls a0 t w HT.out).mono ?_; rintro e w1 ⟨v, rfl, hv, hb⟩; obtain ⟨A, c, rfl, hle, hc⟩ := Kd.R_reads hv; have HC := Aside0.mk hc; have HL := Aside0.mk hle; have HB := Aside0.mk hb; clear hv hle hc hb) | (go_at_call 57; refine (strings_Join.calls A c t (⟨#[32]⟩ : ByteArray) r w1 HC.out HL.out HJ.out).mono ?_; rintro e w2 ⟨rfl, hb2⟩; have HB2 := Aside0.mk hb2; clear hb2))
      go_ret
      exact ⟨rfl, HB.out.trans (HB2.out.mono HB.out.size)⟩
    · rw [if_neg h2] at h
      obtain rfl := Option.some.inj h
      have c1 : (a1 == 1) = false := beq_eq_false_iff_ne.2 h1
      have c2 : (a1 == 2) = false := beq_eq_false_iff_ne.2 h2
      clear h h1 h2
      go_enter Try.func28, Try.ntmps28
      go_wp2
      go_ret
      exact ⟨rfl, Below.refl _ _⟩

/-! ### laws_FnExactWhite: function 8 -/
def laws_FnExactWhite.f (k : Nat) (a0 : ByteArray) (a1 : Int) : Option (Bool) := if (a0.size : Int) > 1048576 then (some true) else ((spec_White.f k a0 a1).bind fun t110 => ((impl_White.f a0 a1).bind fun t111 => (if t111.toList = t110.toList then (some true) else (some false))))
theorem laws_FnExactWhite.mono : ∀ a0 a1 k, LeO (laws_FnExactWhite.f k a0 a1) (laws_FnExactWhite.f (k + 1) a0 a1) := by
 intro a0 a1 k
 unfold laws_FnExactWhite.f
 repeat' first
   | (with_reducible exact spec_White.mono _ _ _)
   | (with_reducible exact LeO.refl _)
   | (with_reducible exact LeO.none _)
   | (with_reducible refine LeO.ite ?_ ?_)
   | (with_reducible refine LeO.bind ?_ (fun _ => ?_))
   | exact spec_White.mono _ _ _
   | exact LeO.none _
   | refine LeO.ite ?_ ?_
   | refine LeO.bind ?_ (fun _ => ?_)
set_option maxHeartbeats 8000000 in
set_option maxRecDepth 100000 in
theorem laws_FnExactWhite.calls (k : Nat) (a0 : ByteArray) (a1 : Int) (r : Bool) (w : World) (h : laws_FnExactWhite.f k a0 a1 = some r) :
  Calls Try.prog 8 #[.string a0, .int .i64 a1] w fun e w' => e = .returned (.bool r) ∧ Below w.heap.size w w' := by
 have HB := Aside0.mk (Below.refl w.heap.size w)
 have H : (if (a0.size : Int) > 1048576 then (some true) else ((spec_White.f k a0 a1).bind fun t110 => ((impl_White.f a0 a1).bind fun t111 => (if t111.toList = t110.toList then (some true) else (some false))))) = some r := h
 clear h
 by_cases c3 : (a0.size : Int) > 1048576
 ·rw [if_pos c3] at H
  have c3b0 : decide (1048576 < (a0.size : Int)) = true := decide_eq_true c3
  have c3b1 : decide (1048576 < a0.size) = true := decide_eq_true (by omega)
  clear c3
  obtain rfl := Option.some.inj H
  go_enter Try.func8, Try.ntmps8
  go_wp2
  go_ret
  exact ⟨by first | rfl | (simp [*] <;> rfl), by repeat (first | (with_reducible first | exact HB.out | apply below_alloc | apply pw_below_drewN | apply below_drew1) | exact HB.out)⟩
 ·rw [if_neg c3] at H
  have c3b0 : decide (1048576 < (a0.size : Int)) = false := decide_eq_false c3
  have c3b1 : decide (1048576 < a0.size) = false := decide_eq_false (by omega)
  clear c3
  replace H := Option.bind_eq_some_iff.mp H
  obtain ⟨t110, A40, H⟩ := H
  replace H : ((impl_White.f a0 a1).bind fun t111 => (if t111.toList = t110.toList then (some true) else (some false))) = some r := H
  have A4 := Aside0.mk A40
  clear A40
  replace H := Option.bind_eq_some_iff.mp H
  obtain ⟨t111, A50, H⟩ := H
  replace H : (if t111.toList = t110.toList then (some true) else (some false)) = some r := H
  have A5 := Aside0.mk A50
  clear A50
  by_cases c6 : t111.toList = t110.toList
  ·rw [if_pos c6] at H
   have c6b0 : (t111.toList == t110.toList) = true := beq_iff_eq.mpr c6
   have c6b1 : (t111.toList != t110.toList) = false := bne_eq_false_iff_eq.mpr c6
   clear c6
   obtain rfl := Option.some.inj H
   go_enter Try.func8, Try.ntmps8
   go_wp2_with (first | ((with_reducible refine gate_callee (f := 27) rfl ?_); refine goesL_ (some 12) rfl rfl Try.func27 (by kernel_rfl) rfl #[.string a0, .int .i64 a1] rfl (by (try simp only [List.map_toArray, List.map_cons, List.map_nil]); first | done | rfl | (simp only [List.length_drop, List.length_take]; rfl)) ?_; (with_reducible refine (spec_White.calls k a0 a1 t110 _ A4.out).mono ?_); rintro e w7 ⟨rfl, hb⟩; refine ⟨_, rfl, ?_⟩; have n0_ := Aside0.mk (below_step (by repeat (first | (with_reducible first | exact HB.out | apply below_alloc | apply pw_below_drewN | apply below_drew1) | exact HB.out)) hb); clear HB; have HB := n0_; clear n0_; (try clear hb); (try clear hb2); (try clear hk); (try clear hi)) | ((with_reducible refine gate_callee (f := 28) rfl ?_); refine goesL_ (some 15) rfl rfl Try.func28 (by kernel_rfl) rfl #[.string a0, .int .i64 a1] rfl (by (try simp only [List.map_toArray, List.map_cons, List.map_nil]); first | done | rfl | (simp only [List.length_drop, List.length_take]; rfl)) ?_; (with_reducible refine (impl_White.calls a0 a1 t111 _ A5.out).mono ?_); rintro e w8 ⟨rfl, hb⟩; refine ⟨_, rfl, ?_⟩; have n0_ := Aside0.mk (below_step (by repeat (first | (with_reducible first | exact HB.out | apply below_alloc | apply pw_below_drewN | apply below_drew1) | exact HB.out)) hb); clear HB; have HB := n0_; clear n0_; (try clear hb); (try clear hb2); (try clear hk); (try clear hi)))
   go_ret
   exact ⟨by first | rfl | (simp [*] <;> rfl), by repeat (first | (with_reducible first | exact HB.out | apply below_alloc | apply pw_below_drewN | apply below_drew1) | exact HB.out)⟩
  ·rw [if_neg c6] at H
   have c6b0 : (t111.toList == t110.toList) = false := beq_eq_false_iff_ne.mpr c6
   have c6b1 : (t111.toList != t110.toList) = true := bne_iff_ne.mpr c6
   obtain rfl := Option.some.inj H
   go_enter Try.func8, Try.ntmps8
   go_wp2_with (first | ((with_reducible refine gate_callee (f := 27) rfl ?_); refine goesL_ (some 12) rfl rfl Try.func27 (by kernel_rfl) rfl #[.string a0, .int .i64 a1] rfl (by (try simp only [List.map_toArray, List.map_cons, List.map_nil]); first | done | rfl | (simp only [List.length_drop, List.length_take]; rfl)) ?_; (with_reducible refine (spec_White.calls k a0 a1 t110 _ A4.out).mono ?_); rintro e w9 ⟨rfl, hb⟩; refine ⟨_, rfl, ?_⟩; have n0_ := Aside0.mk (below_step (by repeat (first | (with_reducible first | exact HB.out | apply below_alloc | apply pw_below_drewN | apply below_drew1) | exact HB.out)) hb); clear HB; have HB := n0_; clear n0_; (try clear hb); (try clear hb2); (try clear hk); (try clear hi)) | ((with_reducible refine gate_callee (f := 28) rfl ?_); refine goesL_ (some 15) rfl rfl Try.func28 (by kernel_rfl) rfl #[.string a0, .int .i64 a1] rfl (by (try simp only [List.map_toArray, List.map_cons, List.map_nil]); first | done | rfl | (simp only [List.length_drop, List.length_take]; rfl)) ?_; (with_reducible refine (impl_White.calls a0 a1 t111 _ A5.out).mono ?_); rintro e w10 ⟨rfl, hb⟩; refine ⟨_, rfl, ?_⟩; have n0_ := Aside0.mk (below_step (by repeat (first | (with_reducible first | exact HB.out | apply below_alloc | apply pw_below_drewN | apply below_drew1) | exact HB.out)) hb); clear HB; have HB := n0_; clear n0_; (try clear hb); (try clear hb2); (try clear hk); (try clear hi)))
   go_ret
   exact ⟨by first | rfl | (simp [*] <;> rfl), by repeat (first | (with_reducible first | exact HB.out | apply below_alloc | apply pw_below_drewN | apply below_drew1) | exact HB.out)⟩

/-- THE ONE PURE STATEMENT of laws_FnExactWhite: yours. -/
def laws_FnExactWhite.Pure : Prop := ∀ (a0 : ByteArray) (a1 : Int), a0.size ≤ 140737488351232 → (Lit.int .i64 a1).wf = true → ∃ k, laws_FnExactWhite.f k a0 a1 = some true
theorem laws_FnExactWhite.walk (P : laws_FnExactWhite.Pure) (a0 : ByteArray) (a1 : Int) (w : World) (w0 : a0.size ≤ 140737488351232) (w1 : (Lit.int .i64 a1).wf = true) :
  Calls Try.prog 8 #[.string a0, .int .i64 a1] w fun e w' => e = .returned (.bool true) ∧ Below w.heap.size w w' := by
 obtain ⟨k, h⟩ := P a0 a1 w0 w1
 refine (laws_FnExactWhite.calls k a0 a1 true w h).mono ?_
 rintro e w' ⟨rfl, hd⟩
 exact ⟨rfl, hd⟩

end Go.Proofs.Ytaliphegdclkfaa.PW
