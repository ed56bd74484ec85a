import Derived.Test.YtbhklkpjjpkblaaGreatDoorHShort
import Derived.Test.YtbhklkpjjpkblaaGreatDoorPPx0
namespace Go.Proofs.YtbhklkpjjpkblaaGreatDoor.PP
open Go.RowKit Go.Proofs.YtbhklkpjjpkblaaGreatDoorW.PrintWords Go.Proofs.YtbhklkpjjpkblaaGreatDoorW.PrintLast Go.Proofs.YtbhklkpjjpkblaaGreatDoorW.PrintMore Go.Proofs.YtbhklkpjjpkblaaGreatDoorW.WordsB Go.Proofs.YtbhklkpjjpkblaaGreatDoorW.GlM Go.Proofs.YtbhklkpjjpkblaaGreatDoorW.Short
attribute [local go_sem] max2_int min2_int max_two min_two max_three min_three max_four min_four
set_option linter.unusedVariables false
set_option linter.unusedSimpArgs false
mutual
def spec_l2Escape.l0 : Nat → ByteArray → Bool → ByteArray → Int → Option (ByteArray)
 | 0, _, _, _, _ => none
 | k + 1, x0, x1, x5, x6 => if x6 < (x0.size : Int) then (if 0 ≤ x6 then (if (bt x0 x6) = 38 then (if x5.size + 5 ≤ 9223372036854775807 then (spec_l2Escape.l0 k x0 x1 (x5 ++ (⟨#[38, 97, 109, 112, 59]⟩ : ByteArray)) (wrap64 (x6 + 1))) else (none)) else (if (bt x0 x6) = 60 then (if x5.size + 4 ≤ 9223372036854775807 then (spec_l2Escape.l0 k x0 x1 (x5 ++ (⟨#[38, 108, 116, 59]⟩ : ByteArray)) (wrap64 (x6 + 1))) else (none)) else (if (bt x0 x6) = 62 then (if x5.size + 4 ≤ 9223372036854775807 then (spec_l2Escape.l0 k x0 x1 (x5 ++ (⟨#[38, 103, 116, 59]⟩ : ByteArray)) (wrap64 (x6 + 1))) else (none)) else (if (bt x0 x6) = 13 then (if x5.size + 5 ≤ 9223372036854775807 then (spec_l2Escape.l0 k x0 x1 (x5 ++ (⟨#[38, 35, 49, 51, 59]⟩ : ByteArray)) (wrap64 (x6 + 1))) else (none)) else (if x1 = true then (spec_l2Escape.j1 k x0 x1 x5 x6 (bt x0 x6) ((bt x0 x6) == 34)) else (spec_l2Escape.j1 k x0 x1 x5 x6 (bt x0 x6) false)))))) else (none)) else (some x5)
def spec_l2Escape.j1 : Nat → ByteArray → Bool → ByteArray → Int → Int → Bool → Option (ByteArray)
 | 0, _, _, _, _, _, _ => none
 | k + 1, x0, x1, x5, x6, x7, x44 => if x44 = true then (if x5.size + 6 ≤ 9223372036854775807 then (spec_l2Escape.l0 k x0 x1 (x5 ++ (⟨#[38, 113, 117, 111, 116, 59]⟩ : ByteArray)) (wrap64 (x6 + 1))) else (none)) else (if x1 = true then (spec_l2Escape.j2 k x0 x1 x5 x6 x7 (x7 == 9)) else (spec_l2Escape.j2 k x0 x1 x5 x6 x7 false))
def spec_l2Escape.j2 : Nat → ByteArray → Bool → ByteArray → Int → Int → Bool → Option (ByteArray)
 | 0, _, _, _, _, _, _ => none
 | k + 1, x0, x1, x5, x6, x7, x52 => if x52 = true then (if x5.size + 4 ≤ 9223372036854775807 then (spec_l2Escape.l0 k x0 x1 (x5 ++ (⟨#[38, 35, 57, 59]⟩ : ByteArray)) (wrap64 (x6 + 1))) else (none)) else (if x1 = true then (if x7 = 10 then (if x5.size + 5 ≤ 9223372036854775807 then (spec_l2Escape.l0 k x0 x1 (x5 ++ (⟨#[38, 35, 49, 48, 59]⟩ : ByteArray)) (wrap64 (x6 + 1))) else (none)) else (if 0 ≤ x6 then (if x6 ≤ (wrap64 (x6 + 1)) then (if (wrap64 (x6 + 1)) ≤ (x0.size : Int) then (if x5.size + ((x0.extract (x6 : Int).toNat ((wrap64 (x6 + 1)) : Int).toNat).size) ≤ 9223372036854775807 then (spec_l2Escape.l0 k x0 x1 (x5 ++ (x0.extract (x6 : Int).toNat ((wrap64 (x6 + 1)) : Int).toNat)) (wrap64 (x6 + 1))) else (none)) else (none)) else (none)) else (none))) else (if 0 ≤ x6 then (if x6 ≤ (wrap64 (x6 + 1)) then (if (wrap64 (x6 + 1)) ≤ (x0.size : Int) then (if x5.size + ((x0.extract (x6 : Int).toNat ((wrap64 (x6 + 1)) : Int).toNat).size) ≤ 9223372036854775807 then (spec_l2Escape.l0 k x0 x1 (x5 ++ (x0.extract (x6 : Int).toNat ((wrap64 (x6 + 1)) : Int).toNat)) (wrap64 (x6 + 1))) else (none)) else (none)) else (none)) else (none)))
end
def spec_l2Escape.f (k : Nat) (a0 : ByteArray) (a1 : Bool) : Option (ByteArray) := spec_l2Escape.l0 k a0 a1 (⟨#[]⟩ : ByteArray) 0
set_option maxHeartbeats 8000000 in
set_option maxRecDepth 100000 in
theorem spec_l2Escape.calls (k : Nat) (a0 : ByteArray) (a1 : Bool) (r : ByteArray) (w : World) (h : spec_l2Escape.f k a0 a1 = some r) :
  Calls Tryz.prog 24 #[.string a0, .bool a1] w fun e w' => e = .returned (.string r) ∧ Drawn0 w w' := by
 have H : (spec_l2Escape.l0 k a0 a1 (⟨#[]⟩ : ByteArray) 0) = some r := h
 clear h
 have H' := Aside0.mk H
 clear H
 go_enter Tryz.func24, Tryz.ntmps24
 go_wp2
 go_loopg [5, 6] k (fun kq v5 v6 w' => ∃ (x5_1 : ByteArray) (x6_1 : Int), v5 = .string x5_1 ∧ v6 = .int .i64 x6_1 ∧ Aside0 (spec_l2Escape.l0 kq a0 a1 x5_1 x6_1 = some r) ∧ Aside0 (kq ≤ k) ∧ Drawn0 w w')
 case atStart => exact ⟨((⟨#[]⟩ : ByteArray)), (0), aR, aR, H', ⟨Nat.le_refl _⟩, by repeat (first | exact Drawn0.refl _ | apply Drawn0.step)⟩
 case round =>
  clear H'
  try clear c2
  try clear p2
  obtain ⟨x5_1, x6_1, rfl, rfl, HA, HK1, ⟨m1, rfl⟩⟩ := hrel
  cases gk with
  | zero => exact absurd HA.out (by simp [spec_l2Escape.l0])
  | succ k1 =>
   have H := HA.out
   clear HA
   simp only [spec_l2Escape.l0] at H
   by_cases c3 : x6_1 < (a0.size : Int)
   rotate_left
   ·rw [if_neg c3] at H
    have c3b0 : decide (x6_1 < (a0.size : Int)) = false := decide_eq_false c3
    clear c3
    obtain rfl := Option.some.inj H
    go_wp2
    go_ret
    exact ⟨by first | rfl | (simp; done) | (simp [*]; done), by repeat (first | exact Drawn0.refl _ | apply Drawn0.step)⟩
   rw [if_pos c3] at H
   have c3b0 : decide (x6_1 < (a0.size : Int)) = true := decide_eq_true c3
   clear c3
   by_cases c4 : 0 ≤ x6_1
   rotate_left
   ·rw [if_neg c4] at H
    exact absurd H (by simp)
   rw [if_pos c4] at H
   have c4b0 : decide (0 ≤ x6_1) = true := decide_eq_true c4
   clear c4
   by_cases c6 : (bt a0 x6_1) = 38
   ·rw [if_pos c6] at H
    have c6b0 : ((bt a0 x6_1) == 38) = true := beq_iff_eq.mpr c6
    have c6b1 : ((bt a0 x6_1) != 38) = false := bne_eq_false_iff_eq.mpr c6
    clear c6
    by_cases c7 : x5_1.size + 5 ≤ 9223372036854775807
    rotate_left
    ·rw [if_neg c7] at H
     exact absurd H (by simp)
    rw [if_pos c7] at H
    have c7b0 := eq_true c7
    have c7b1 : decide (x5_1.size + 5 ≤ 9223372036854775807) = true := decide_eq_true c7
    try have c7b2 : (9223372036854775807 < x5_1.size + 5) = False := eq_false (Nat.not_lt.2 c7)
    have H' := Aside0.mk H
    clear H
    have p5 : 0 ≤ (x6_1 : Int) := aD
    have q5 : x6_1 < (a0.size : Int) := aD
    have hx5 := bt_at a0 x6_1
    replace p5 := eq_true p5
    replace q5 := eq_true q5
    go_wp2
    go_roundg k1
    case measure => have := HK1.out; omega
    case rel => exact ⟨(x5_1 ++ (⟨#[38, 97, 109, 112, 59]⟩ : ByteArray)), (wrap64 (x6_1 + 1)), aR, aR, H', ⟨by have := HK1.out; omega⟩, by repeat (first | exact Drawn0.refl _ | apply Drawn0.step)⟩
   rw [if_neg c6] at H
   have c6b0 : ((bt a0 x6_1) == 38) = false := beq_eq_false_iff_ne.mpr c6
   have c6b1 : ((bt a0 x6_1) != 38) = true := bne_iff_ne.mpr c6
   by_cases c8 : (bt a0 x6_1) = 60
   ·rw [if_pos c8] at H
    have c8b0 : ((bt a0 x6_1) == 60) = true := beq_iff_eq.mpr c8
    have c8b1 : ((bt a0 x6_1) != 60) = false := bne_eq_false_iff_eq.mpr c8
    clear c8
    by_cases c9 : x5_1.size + 4 ≤ 9223372036854775807
    rotate_left
    ·rw [if_neg c9] at H
     exact absurd H (by simp)
    rw [if_pos c9] at H
    have c9b0 := eq_true c9
    have c9b1 : decide (x5_1.size + 4 ≤ 9223372036854775807) = true := decide_eq_true c9
    try have c9b2 : (9223372036854775807 < x5_1.size + 4) = False := eq_false (Nat.not_lt.2 c9)
    have H' := Aside0.mk H
    clear H
    have p5 : 0 ≤ (x6_1 : Int) := aD
    have q5 : x6_1 < (a0.size : Int) := aD
    have hx5 := bt_at a0 x6_1
    replace p5 := eq_true p5
    replace q5 := eq_true q5
    go_wp2
    go_roundg k1
    case measure => have := HK1.out; omega
    case rel => exact ⟨(x5_1 ++ (⟨#[38, 108, 116, 59]⟩ : ByteArray)), (wrap64 (x6_1 + 1)), aR, aR, H', ⟨by have := HK1.out; omega⟩, by repeat (first | exact Drawn0.refl _ | apply Drawn0.step)⟩
   rw [if_neg c8] at H
   have c8b0 : ((bt a0 x6_1) == 60) = false := beq_eq_false_iff_ne.mpr c8
   have c8b1 : ((bt a0 x6_1) != 60) = true := bne_iff_ne.mpr c8
   by_cases c10 : (bt a0 x6_1) = 62
   ·rw [if_pos c10] at H
    have c10b0 : ((bt a0 x6_1) == 62) = true := beq_iff_eq.mpr c10
    have c10b1 : ((bt a0 x6_1) != 62) = false := bne_eq_false_iff_eq.mpr c10
    clear c10
    by_cases c11 : x5_1.size + 4 ≤ 9223372036854775807
    rotate_left
    ·rw [if_neg c11] at H
     exact absurd H (by simp)
    rw [if_pos c11] at H
    have c11b0 := eq_true c11
    have c11b1 : decide (x5_1.size + 4 ≤ 9223372036854775807) = true := decide_eq_true c11
    try have c11b2 : (9223372036854775807 < x5_1.size + 4) = False := eq_false (Nat.not_lt.2 c11)
    have H' := Aside0.mk H
    clear H
    have p5 : 0 ≤ (x6_1 : Int) := aD
    have q5 : x6_1 < (a0.size : Int) := aD
    have hx5 := bt_at a0 x6_1
    replace p5 := eq_true p5
    replace q5 := eq_true q5
    go_wp2
    go_roundg k1
    case measure => have := HK1.out; omega
    case rel => exact ⟨(x5_1 ++ (⟨#[38, 103, 116, 59]⟩ : ByteArray)), (wrap64 (x6_1 + 1)), aR, aR, H', ⟨by have := HK1.out; omega⟩, by repeat (first | exact Drawn0.refl _ | apply Drawn0.step)⟩
   rw [if_neg c10] at H
   have c10b0 : ((bt a0 x6_1) == 62) = false := beq_eq_false_iff_ne.mpr c10
   have c10b1 : ((bt a0 x6_1) != 62) = true := bne_iff_ne.mpr c10
   by_cases c12 : (bt a0 x6_1) = 13
   ·rw [if_pos c12] at H
    have c12b0 : ((bt a0 x6_1) == 13) = true := beq_iff_eq.mpr c12
    have c12b1 : ((bt a0 x6_1) != 13) = false := bne_eq_false_iff_eq.mpr c12
    clear c12
    by_cases c13 : x5_1.size + 5 ≤ 9223372036854775807
    rotate_left
    ·rw [if_neg c13] at H
     exact absurd H (by simp)
    rw [if_pos c13] at H
    have c13b0 := eq_true c13
    have c13b1 : decide (x5_1.size + 5 ≤ 9223372036854775807) = true := decide_eq_true c13
    try have c13b2 : (9223372036854775807 < x5_1.size + 5) = False := eq_false (Nat.not_lt.2 c13)
    have H' := Aside0.mk H
    clear H
    have p5 : 0 ≤ (x6_1 : Int) := aD
    have q5 : x6_1 < (a0.size : Int) := aD
    have hx5 := bt_at a0 x6_1
    replace p5 := eq_true p5
    replace q5 := eq_true q5
    go_wp2
    go_roundg k1
    case measure => have := HK1.out; omega
    case rel => exact ⟨(x5_1 ++ (⟨#[38, 35, 49, 51, 59]⟩ : ByteArray)), (wrap64 (x6_1 + 1)), aR, aR, H', ⟨by have := HK1.out; omega⟩, by repeat (first | exact Drawn0.refl _ | apply Drawn0.step)⟩
   rw [if_neg c12] at H
   have c12b0 : ((bt a0 x6_1) == 13) = false := beq_eq_false_iff_ne.mpr c12
   have c12b1 : ((bt a0 x6_1) != 13) = true := bne_iff_ne.mpr c12
   have HC14 := Aside0.mk H
   clear H
   have p5 : 0 ≤ (x6_1 : Int) := aD
   have q5 : x6_1 < (a0.size : Int) := aD
   have hx5 := bt_at a0 x6_1
   replace p5 := eq_true p5
   replace q5 := eq_true q5
   go_upto_region 15 with (fail)
   go_cut [44] (fun v44 wc => ∃ (kq : Nat) (x44_13 : Bool), v44 = .bool x44_13 ∧ Aside0 (spec_l2Escape.j1 kq a0 a1 x5_1 x6_1 (bt a0 x6_1) x44_13 = some r) ∧ Aside0 (kq ≤ k1) ∧ Drawn0 w wc)
   case first =>
    have H := HC14.out
    clear HC14
    by_cases c15 : a1 = true
    ·subst c15
     have H1 : (spec_l2Escape.j1 k1 a0 true x5_1 x6_1 (bt a0 x6_1) ((bt a0 x6_1) == 34)) = some r := by rw [if_pos rfl] at H; exact H
     clear H
     have H := H1
     clear H1
     have H' := Aside0.mk H
     clear H
     go_wp2
     go_meet
     case rel => exact ⟨_, (((bt a0 x6_1) == 34)), aR, H', ⟨by have := HK1.out; first | omega | exact Nat.le_refl _⟩, by repeat (first | exact Drawn0.refl _ | apply Drawn0.step)⟩
    replace c15 := Bool.eq_false_iff.mpr c15
    subst c15
    have H1 : (spec_l2Escape.j1 k1 a0 false x5_1 x6_1 (bt a0 x6_1) false) = some r := by rw [if_neg (show ¬ (false = true) by decide)] at H; exact H
    clear H
    have H := H1
    clear H1
    have H' := Aside0.mk H
    clear H
    go_wp2
    go_meet
    case rel => exact ⟨_, (false), aR, H', ⟨by have := HK1.out; first | omega | exact Nat.le_refl _⟩, by repeat (first | exact Drawn0.refl _ | apply Drawn0.step)⟩
   case rest =>
    clear HC14
    try clear c1
    try clear c2
    try clear p2
    try clear c3
    try clear c3b0
    try clear c4
    try clear c4b0
    try clear p5
    try clear q5
    try clear hx5
    try clear c6
    try clear c6b0
    try clear c6b1
    try clear p6
    try clear c7
    try clear c7b0
    try clear c7b1
    try clear c7b2
    try clear c8
    try clear c8b0
    try clear c8b1
    try clear c9
    try clear c9b0
    try clear c9b1
    try clear c9b2
    try clear c10
    try clear c10b0
    try clear c10b1
    try clear c11
    try clear c11b0
    try clear c11b1
    try clear c11b2
    try clear c12
    try clear c12b0
    try clear c12b1
    try clear c13
    try clear c13b0
    try clear c13b1
    try clear c13b2
    try clear c15
    try clear p2
    try clear p5
    try clear q5
    obtain ⟨kq, x44_13, rfl, HA, HJ13, ⟨mc13, rfl⟩⟩ := hcut
    cases kq with
    | zero => exact absurd HA.out (by simp [spec_l2Escape.j1])
    | succ kj13 =>
     have H := HA.out
     clear HA
     simp only [spec_l2Escape.j1] at H
     by_cases c16 : x44_13 = true
     ·subst c16
      have H1 : (if x5_1.size + 6 ≤ 9223372036854775807 then (spec_l2Escape.l0 kj13 a0 a1 (x5_1 ++ (⟨#[38, 113, 117, 111, 116, 59]⟩ : ByteArray)) (wrap64 (x6_1 + 1))) else (none)) = some r := by rw [if_pos rfl] at H; exact H
      clear H
      have H := H1
      clear H1
      by_cases c17 : x5_1.size + 6 ≤ 9223372036854775807
      rotate_left
      ·rw [if_neg c17] at H
       exact absurd H (by simp)
      rw [if_pos c17] at H
      have c17b0 := eq_true c17
      have c17b1 : decide (x5_1.size + 6 ≤ 9223372036854775807) = true := decide_eq_true c17
      try have c17b2 : (9223372036854775807 < x5_1.size + 6) = False := eq_false (Nat.not_lt.2 c17)
      have H' := Aside0.mk H
      clear H
      go_wp2
      go_roundg kj13
      case measure => have := HK1.out; have := HJ13.out; omega
      case rel => exact ⟨(x5_1 ++ (⟨#[38, 113, 117, 111, 116, 59]⟩ : ByteArray)), (wrap64 (x6_1 + 1)), aR, aR, H', ⟨by have := HK1.out; have := HJ13.out; omega⟩, by repeat (first | exact Drawn0.refl _ | apply Drawn0.step)⟩
     replace c16 := Bool.eq_false_iff.mpr c16
     subst c16
     have H1 : (if a1 = true then (spec_l2Escape.j2 kj13 a0 a1 x5_1 x6_1 (bt a0 x6_1) ((bt a0 x6_1) == 9)) else (spec_l2Escape.j2 kj13 a0 a1 x5_1 x6_1 (bt a0 x6_1) false)) = some r := by rw [if_neg (show ¬ (false = true) by decide)] at H; exact H
     clear H
     have H := H1
     clear H1
     have HC18 := Aside0.mk H
     clear H
     go_upto_region 17 with (fail)
     go_cut [52] (fun v52 wc => ∃ (kq : Nat) (x52_17 : Bool), v52 = .bool x52_17 ∧ Aside0 (spec_l2Escape.j2 kq a0 a1 x5_1 x6_1 (bt a0 x6_1) x52_17 = some r) ∧ Aside0 (kq ≤ kj13) ∧ Drawn0 w wc)
     case first =>
      have H := HC18.out
      clear HC18
      by_cases c19 : a1 = true
      ·subst c19
       have H1 : (spec_l2Escape.j2 kj13 a0 true x5_1 x6_1 (bt a0 x6_1) ((bt a0 x6_1) == 9)) = some r := by rw [if_pos rfl] at H; exact H
       clear H
       have H := H1
       clear H1
       have H' := Aside0.mk H
       clear H
       go_wp2
       go_meet
       case rel => exact ⟨_, (((bt a0 x6_1) == 9)), aR, H', ⟨by have := HK1.out; have := HJ13.out; first | omega | exact Nat.le_refl _⟩, by repeat (first | exact Drawn0.refl _ | apply Drawn0.step)⟩
      replace c19 := Bool.eq_false_iff.mpr c19
      subst c19
      have H1 : (spec_l2Escape.j2 kj13 a0 false x5_1 x6_1 (bt a0 x6_1) false) = some r := by rw [if_neg (show ¬ (false = true) by decide)] at H; exact H
      clear H
      have H := H1
      clear H1
      have H' := Aside0.mk H
      clear H
      go_wp2
      go_meet
      case rel => exact ⟨_, (false), aR, H', ⟨by have := HK1.out; have := HJ13.out; first | omega | exact Nat.le_refl _⟩, by repeat (first | exact Drawn0.refl _ | apply Drawn0.step)⟩
     case rest =>
      clear HC18
      try clear c1
      try clear c2
      try clear p2
      try clear c3
      try clear c3b0
      try clear c4
      try clear c4b0
      try clear p5
      try clear q5
      try clear hx5
      try clear c6
      try clear c6b0
      try clear c6b1
      try clear p6
      try clear c7
      try clear c7b0
      try clear c7b1
      try clear c7b2
      try clear c8
      try clear c8b0
      try clear c8b1
      try clear c9
      try clear c9b0
      try clear c9b1
      try clear c9b2
      try clear c10
      try clear c10b0
      try clear c10b1
      try clear c11
      try clear c11b0
      try clear c11b1
      try clear c11b2
      try clear c12
      try clear c12b0
      try clear c12b1
      try clear c13
      try clear c13b0
      try clear c13b1
      try clear c13b2
      try clear c15
      try clear c16
      try clear c17
      try clear c17b0
      try clear c17b1
      try clear c17b2
      try clear c19
      try clear p2
      try clear p5
      try clear p6
      try clear q5
      obtain ⟨kq, x52_17, rfl, HA, HJ17, ⟨mc17, rfl⟩⟩ := hcut
      cases kq with
      | zero => exact absurd HA.out (by simp [spec_l2Escape.j2])
      | succ kj17 =>
       have H := HA.out
       clear HA
       simp only [spec_l2Escape.j2] at H
       by_cases c20 : x52_17 = true
       ·subst c20
        have H1 : (if x5_1.size + 4 ≤ 9223372036854775807 then (spec_l2Escape.l0 kj17 a0 a1 (x5_1 ++ (⟨#[38, 35, 57, 59]⟩ : ByteArray)) (wrap64 (x6_1 + 1))) else (none)) = some r := by rw [if_pos rfl] at H; exact H
        clear H
        have H := H1
        clear H1
        by_cases c21 : x5_1.size + 4 ≤ 9223372036854775807
        rotate_left
        ·rw [if_neg c21] at H
         exact absurd H (by simp)
        rw [if_pos c21] at H
        have c21b0 := eq_true c21
        have c21b1 : decide (x5_1.size + 4 ≤ 9223372036854775807) = true := decide_eq_true c21
        try have c21b2 : (9223372036854775807 < x5_1.size + 4) = False := eq_false (Nat.not_lt.2 c21)
        have H' := Aside0.mk H
        clear H
        go_wp2
        go_roundg kj17
        case measure => have := HK1.out; have := HJ13.out; have := HJ17.out; omega
        case rel => exact ⟨(x5_1 ++ (⟨#[38, 35, 57, 59]⟩ : ByteArray)), (wrap64 (x6_1 + 1)), aR, aR, H', ⟨by have := HK1.out; have := HJ13.out; have := HJ17.out; omega⟩, by repeat (first | exact Drawn0.refl _ | apply Drawn0.step)⟩
       replace c20 := Bool.eq_false_iff.mpr c20
       subst c20
       have H1 : (if a1 = true then (if (bt a0 x6_1) = 10 then (if x5_1.size + 5 ≤ 9223372036854775807 then (spec_l2Escape.l0 kj17 a0 a1 (x5_1 ++ (⟨#[38, 35, 49, 48, 59]⟩ : ByteArray)) (wrap64 (x6_1 + 1))) else (none)) else (if 0 ≤ x6_1 then (if x6_1 ≤ (wrap64 (x6_1 + 1)) then (if (wrap64 (x6_1 + 1)) ≤ (a0.size : Int) then (if x5_1.size + ((a0.extract (x6_1 : Int).toNat ((wrap64 (x6_1 + 1)) : Int).toNat).size) ≤ 9223372036854775807 then (spec_l2Escape.l0 kj17 a0 a1 (x5_1 ++ (a0.extract (x6_1 : Int).toNat ((wrap64 (x6_1 + 1)) : Int).toNat)) (wrap64 (x6_1 + 1))) else (none)) else (none)) else (none)) else (none))) else (if 0 ≤ x6_1 then (if x6_1 ≤ (wrap64 (x6_1 + 1)) then (if (wrap64 (x6_1 + 1)) ≤ (a0.size : Int) then (if x5_1.size + ((a0.extract (x6_1 : Int).toNat ((wrap64 (x6_1 + 1)) : Int).toNat).size) ≤ 9223372036854775807 then (spec_l2Escape.l0 kj17 a0 a1 (x5_1 ++ (a0.extract (x6_1 : Int).toNat ((wrap64 (x6_1 + 1)) : Int).toNat)) (wrap64 (x6_1 + 1))) else (none)) else (none)) else (none)) else (none))) = some r := by rw [if_neg (show ¬ (false = true) by decide)] at H; exact H
       clear H
       have H := H1
       clear H1
       by_cases c22 : a1 = true
       rotate_left
       ·replace c22 := Bool.eq_false_iff.mpr c22
        subst c22
        have H1 : (if 0 ≤ x6_1 then (if x6_1 ≤ (wrap64 (x6_1 + 1)) then (if (wrap64 (x6_1 + 1)) ≤ (a0.size : Int) then (if x5_1.size + ((a0.extract (x6_1 : Int).toNat ((wrap64 (x6_1 + 1)) : Int).toNat).size) ≤ 9223372036854775807 then (spec_l2Escape.l0 kj17 a0 false (x5_1 ++ (a0.extract (x6_1 : Int).toNat ((wrap64 (x6_1 + 1)) : Int).toNat)) (wrap64 (x6_1 + 1))) else (none)) else (none)) else (none)) else (none)) = some r := by rw [if_neg (show ¬ (false = true) by decide)] at H; exact H
        clear H
        have H := H1
        clear H1
        by_cases c29 : 0 ≤ x6_1
        rotate_left
        ·rw [if_neg c29] at H
         exact absurd H (by simp)
        rw [if_pos c29] at H
        have c29b0 := eq_true c29
        have c29b1 : decide (0 ≤ x6_1) = true := decide_eq_true c29
        clear c29
        by_cases c30 : x6_1 ≤ (wrap64 (x6_1 + 1))
        rotate_left
        ·rw [if_neg c30] at H
         exact absurd H (by simp)
        rw [if_pos c30] at H
        have c30b0 := eq_true c30
        have c30b1 : decide (x6_1 ≤ (wrap64 (x6_1 + 1))) = true := decide_eq_true c30
        by_cases c31 : (wrap64 (x6_1 + 1)) ≤ (a0.size : Int)
        rotate_left
        ·rw [if_neg c31] at H
         exact absurd H (by simp)
        rw [if_pos c31] at H
        have c31b0 := eq_true c31
        have c31b1 : decide ((wrap64 (x6_1 + 1)) ≤ (a0.size : Int)) = true := decide_eq_true c31
        by_cases c32 : x5_1.size + ((a0.extract (x6_1 : Int).toNat ((wrap64 (x6_1 + 1)) : Int).toNat).size) ≤ 9223372036854775807
        rotate_left
        ·rw [if_neg c32] at H
         exact absurd H (by simp)
        rw [if_pos c32] at H
        have c32b0 := eq_true c32
        have c32b1 : decide (x5_1.size + ((a0.extract (x6_1 : Int).toNat ((wrap64 (x6_1 + 1)) : Int).toNat).size) ≤ 9223372036854775807) = true := decide_eq_true c32
        try have c32b2 : (9223372036854775807 < x5_1.size + ((a0.extract (x6_1 : Int).toNat ((wrap64 (x6_1 + 1)) : Int).toNat).size)) = False := eq_false (Nat.not_lt.2 c32)
        have H' := Aside0.mk H
        clear H
        go_wp2
        go_roundg kj17
        case measure => have := HK1.out; have := HJ13.out; have := HJ17.out; omega
        case rel => exact ⟨(x5_1 ++ (a0.extract (x6_1 : Int).toNat ((wrap64 (x6_1 + 1)) : Int).toNat)), (wrap64 (x6_1 + 1)), aR, aR, H', ⟨by have := HK1.out; have := HJ13.out; have := HJ17.out; omega⟩, by repeat (first | exact Drawn0.refl _ | apply Drawn0.step)⟩
       subst c22
       have H1 : (if (bt a0 x6_1) = 10 then (if x5_1.size + 5 ≤ 9223372036854775807 then (spec_l2Escape.l0 kj17 a0 true (x5_1 ++ (⟨#[38, 35, 49, 48, 59]⟩ : ByteArray)) (wrap64 (x6_1 + 1))) else (none)) else (if 0 ≤ x6_1 then (if x6_1 ≤ (wrap64 (x6_1 + 1)) then (if (wrap64 (x6_1 + 1)) ≤ (a0.size : Int) then (if x5_1.size + ((a0.extract (x6_1 : Int).toNat ((wrap64 (x6_1 + 1)) : Int).toNat).size) ≤ 9223372036854775807 then (spec_l2Escape.l0 kj17 a0 true (x5_1 ++ (a0.extract (x6_1 : Int).toNat ((wrap64 (x6_1 + 1)) : Int).toNat)) (wrap64 (x6_1 + 1))) else (none)) else (none)) else (none)) else (none))) = some r := by rw [if_pos rfl] at H; exact H
       clear H
       have H := H1
       clear H1
       by_cases c23 : (bt a0 x6_1) = 10
       ·rw [if_pos c23] at H
        have c23b0 : ((bt a0 x6_1) == 10) = true := beq_iff_eq.mpr c23
        have c23b1 : ((bt a0 x6_1) != 10) = false := bne_eq_false_iff_eq.mpr c23
        clear c23
        by_cases c24 : x5_1.size + 5 ≤ 9223372036854775807
        rotate_left
        ·rw [if_neg c24] at H
         exact absurd H (by simp)
        rw [if_pos c24] at H
        have c24b0 := eq_true c24
        have c24b1 : decide (x5_1.size + 5 ≤ 9223372036854775807) = true := decide_eq_true c24
        try have c24b2 : (9223372036854775807 < x5_1.size + 5) = False := eq_false (Nat.not_lt.2 c24)
        have H' := Aside0.mk H
        clear H
        go_wp2
        go_roundg kj17
        case measure => have := HK1.out; have := HJ13.out; have := HJ17.out; omega
        case rel => exact ⟨(x5_1 ++ (⟨#[38, 35, 49, 48, 59]⟩ : ByteArray)), (wrap64 (x6_1 + 1)), aR, aR, H', ⟨by have := HK1.out; have := HJ13.out; have := HJ17.out; omega⟩, by repeat (first | exact Drawn0.refl _ | apply Drawn0.step)⟩
       rw [if_neg c23] at H
       have c23b0 : ((bt a0 x6_1) == 10) = false := beq_eq_false_iff_ne.mpr c23
       have c23b1 : ((bt a0 x6_1) != 10) = true := bne_iff_ne.mpr c23
       by_cases c25 : 0 ≤ x6_1
       rotate_left
       ·rw [if_neg c25] at H
        exact absurd H (by simp)
       rw [if_pos c25] at H
       have c25b0 := eq_true c25
       have c25b1 : decide (0 ≤ x6_1) = true := decide_eq_true c25
       clear c25
       by_cases c26 : x6_1 ≤ (wrap64 (x6_1 + 1))
       rotate_left
       ·rw [if_neg c26] at H
        exact absurd H (by simp)
       rw [if_pos c26] at H
       have c26b0 := eq_true c26
       have c26b1 : decide (x6_1 ≤ (wrap64 (x6_1 + 1))) = true := decide_eq_true c26
       by_cases c27 : (wrap64 (x6_1 + 1)) ≤ (a0.size : Int)
       rotate_left
       ·rw [if_neg c27] at H
        exact absurd H (by simp)
       rw [if_pos c27] at H
       have c27b0 := eq_true c27
       have c27b1 : decide ((wrap64 (x6_1 + 1)) ≤ (a0.size : Int)) = true := decide_eq_true c27
       by_cases c28 : x5_1.size + ((a0.extract (x6_1 : Int).toNat ((wrap64 (x6_1 + 1)) : Int).toNat).size) ≤ 9223372036854775807
       rotate_left
       ·rw [if_neg c28] at H
        exact absurd H (by simp)
       rw [if_pos c28] at H
       have c28b0 := eq_true c28
       have c28b1 : decide (x5_1.size + ((a0.extract (x6_1 : Int).toNat ((wrap64 (x6_1 + 1)) : Int).toNat).size) ≤ 9223372036854775807) = true := decide_eq_true c28
       try have c28b2 : (9223372036854775807 < x5_1.size + ((a0.extract (x6_1 : Int).toNat ((wrap64 (x6_1 + 1)) : Int).toNat).size)) = False := eq_false (Nat.not_lt.2 c28)
       have H' := Aside0.mk H
       clear H
       go_wp2
       go_roundg kj17
       case measure => have := HK1.out; have := HJ13.out; have := HJ17.out; omega
       case rel => exact ⟨(x5_1 ++ (a0.extract (x6_1 : Int).toNat ((wrap64 (x6_1 + 1)) : Int).toNat)), (wrap64 (x6_1 + 1)), aR, aR, H', ⟨by have := HK1.out; have := HJ13.out; have := HJ17.out; omega⟩, by repeat (first | exact Drawn0.refl _ | apply Drawn0.step)⟩
end Go.Proofs.YtbhklkpjjpkblaaGreatDoor.PP
