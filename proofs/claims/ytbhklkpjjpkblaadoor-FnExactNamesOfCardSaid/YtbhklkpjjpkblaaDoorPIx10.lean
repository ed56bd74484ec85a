import Derived.Test.YtbhklkpjjpkblaaDoorHShort
import Derived.Test.YtbhklkpjjpkblaaDoorPIx0
namespace Go.Proofs.YtbhklkpjjpkblaaDoor.PI
open Go.RowKit Go.Proofs.YtbhklkpjjpkblaaDoorW.PrintWords Go.Proofs.YtbhklkpjjpkblaaDoorW.PrintLast Go.Proofs.YtbhklkpjjpkblaaDoorW.PrintMore Go.Proofs.YtbhklkpjjpkblaaDoorW.WordsB Go.Proofs.YtbhklkpjjpkblaaDoorW.GlM Go.Proofs.YtbhklkpjjpkblaaDoorW.Short
attribute [local go_sem] max2_int min2_int max_two min_two max_three min_three max_four min_four
set_option linter.unusedVariables false
set_option linter.unusedSimpArgs false
mutual
def spec_l3Bound.j0 : Nat → List (S74) → Int → ByteArray → ByteArray → Option (ByteArray × Bool)
 | 0, _, _, _, _ => none
 | k + 1, x0, x1, x2, x8 => spec_l3Bound.l0 k x0 x2 x8 x1
def spec_l3Bound.l0 : Nat → List (S74) → ByteArray → ByteArray → Int → Option (ByteArray × Bool)
 | 0, _, _, _, _ => none
 | k + 1, x0, x2, x8, x9 => if x9 ≥ 0 then (spec_l3Bound.l1 k x0 x2 x8 x9 0) else (some ((⟨#[]⟩ : ByteArray), (x2.toList == ([] : List UInt8))))
def spec_l3Bound.l1 : Nat → List (S74) → ByteArray → ByteArray → Int → Int → Option (ByteArray × Bool)
 | 0, _, _, _, _, _ => none
 | k + 1, x0, x2, x8, x9, x10 => if 0 ≤ x9 then (if x9 < (x0.length : Int) then (if x10 < (((rd_T74 x0 x9).f3).length : Int) then (if 0 ≤ x10 then (if ((rd_T76 ((rd_T74 x0 x9).f3) x10).f0).toList = x8.toList then (if ((rd_T76 ((rd_T74 x0 x9).f3) x10).f1).toList = ([] : List UInt8) then (some ((rd_T76 ((rd_T74 x0 x9).f3) x10).f1, (x2.toList == ([] : List UInt8)))) else (some ((rd_T76 ((rd_T74 x0 x9).f3) x10).f1, true))) else (spec_l3Bound.l1 k x0 x2 x8 x9 (wrap64 (x10 + 1)))) else (none)) else (spec_l3Bound.l0 k x0 x2 x8 ((rd_T74 x0 x9).f0))) else (none)) else (none)
end
def spec_l3Bound.f (k : Nat) (l0 : List (S74)) (a1 : Int) (a2 : ByteArray) : Option (ByteArray × Bool) := if a2.toList = ([120, 109, 108] : List UInt8) then (some ((⟨#[104, 116, 116, 112, 58, 47, 47, 119, 119, 119, 46, 119, 51, 46, 111, 114, 103, 47, 88, 77, 76, 47, 49, 57, 57, 56, 47, 110, 97, 109, 101, 115, 112, 97, 99, 101]⟩ : ByteArray), true)) else (if a2.toList = ([] : List UInt8) then (spec_l3Bound.j0 k l0 a1 a2 (⟨#[120, 109, 108, 110, 115]⟩ : ByteArray)) else (if 6 + a2.size ≤ 9223372036854775807 then (spec_l3Bound.j0 k l0 a1 a2 ((⟨#[120, 109, 108, 110, 115, 58]⟩ : ByteArray) ++ a2)) else (none)))
set_option maxHeartbeats 8000000 in
set_option maxRecDepth 100000 in
theorem spec_l3Bound.calls (k : Nat) (A0 : Option Addr) (c0 : Nat) (l0 : List (S74)) (a1 : Int) (a2 : ByteArray) (r1 : ByteArray) (r2 : Bool) (w : World) (hr0 : Kd.C k74 w A0 l0.length l0) (hc0 : l0.length ≤ c0) (h : spec_l3Bound.f k l0 a1 a2 = some (r1, r2)) :
  Calls Tryd.prog 58 #[.slice A0 l0.length c0, .int .i64 a1, .string a2] w fun e w' => e = .returned (.tuple #[.string r1, .bool r2]) ∧ Drawn0 w w' := by
 have HR0 := Aside0.mk hr0
 have HC0 := Aside0.mk hc0
 clear hr0 hc0
 have H : (if a2.toList = ([120, 109, 108] : List UInt8) then (some ((⟨#[104, 116, 116, 112, 58, 47, 47, 119, 119, 119, 46, 119, 51, 46, 111, 114, 103, 47, 88, 77, 76, 47, 49, 57, 57, 56, 47, 110, 97, 109, 101, 115, 112, 97, 99, 101]⟩ : ByteArray), true)) else (if a2.toList = ([] : List UInt8) then (spec_l3Bound.j0 k l0 a1 a2 (⟨#[120, 109, 108, 110, 115]⟩ : ByteArray)) else (if 6 + a2.size ≤ 9223372036854775807 then (spec_l3Bound.j0 k l0 a1 a2 ((⟨#[120, 109, 108, 110, 115, 58]⟩ : ByteArray) ++ a2)) else (none)))) = some (r1, r2) := h
 clear h
 by_cases c4 : a2.toList = ([120, 109, 108] : List UInt8)
 ·rw [if_pos c4] at H
  have c4b0 : (a2.toList == ([120, 109, 108] : List UInt8)) = true := beq_iff_eq.mpr c4
  have c4b1 : (a2.toList != ([120, 109, 108] : List UInt8)) = false := bne_eq_false_iff_eq.mpr c4
  clear c4
  simp only [Option.some.injEq, Prod.mk.injEq] at H
  obtain ⟨rfl, rfl⟩ := H
  go_enter Tryd.func58, Tryd.ntmps58
  go_wp2
  go_ret2
  exact ⟨by first | rfl | (simp only [aX1, aX2]; rfl) | (simp; done) | (simp [*]; done), by repeat (first | exact Drawn0.refl _ | apply Drawn0.step)⟩
 rw [if_neg c4] at H
 have c4b0 : (a2.toList == ([120, 109, 108] : List UInt8)) = false := beq_eq_false_iff_ne.mpr c4
 have c4b1 : (a2.toList != ([120, 109, 108] : List UInt8)) = true := bne_iff_ne.mpr c4
 have HC5 := Aside0.mk H
 clear H
 go_enter Tryd.func58, Tryd.ntmps58
 go_upto_if 15 with (fail)
 go_cut [8] (fun v8 wc => ∃ (kq : Nat) (x8_4 : ByteArray), v8 = .string x8_4 ∧ Aside0 (spec_l3Bound.j0 kq l0 a1 a2 x8_4 = some (r1, r2)) ∧ Aside0 (kq ≤ k) ∧ Drawn0 w wc)
 case first =>
  have H := HC5.out
  clear HC5
  by_cases c6 : a2.toList = ([] : List UInt8)
  ·rw [if_pos c6] at H
   have c6b0 : (a2.toList == ([] : List UInt8)) = true := beq_iff_eq.mpr c6
   have c6b1 : (a2.toList != ([] : List UInt8)) = false := bne_eq_false_iff_eq.mpr c6
   have c6b2 : (a2).toList.isEmpty = true := by (first | exact (List.isEmpty_iff.mpr (eq_of_beq c6b0)) | exact (Bool.eq_false_iff.mpr (fun h_ => by rw [List.isEmpty_iff.mp h_] at c6b0; cases c6b0)))
   clear c6
   (first | rw [c6b0] | (simp only [i64_w, i32_w]; rw [c6b0]) | rw [c6b2] | skip)
   have H' := Aside0.mk H
   clear H
   go_wp2
   go_meet
   case rel => exact ⟨_, ((⟨#[120, 109, 108, 110, 115]⟩ : ByteArray)), aR, H', ⟨by first | omega | exact Nat.le_refl _⟩, by repeat (first | exact Drawn0.refl _ | apply Drawn0.step)⟩
  rw [if_neg c6] at H
  have c6b0 : (a2.toList == ([] : List UInt8)) = false := beq_eq_false_iff_ne.mpr c6
  have c6b1 : (a2.toList != ([] : List UInt8)) = true := bne_iff_ne.mpr c6
  have c6b2 : (a2).toList.isEmpty = false := by (first | exact (List.isEmpty_iff.mpr (eq_of_beq c6b0)) | exact (Bool.eq_false_iff.mpr (fun h_ => by rw [List.isEmpty_iff.mp h_] at c6b0; cases c6b0)))
  (first | rw [c6b0] | (simp only [i64_w, i32_w]; rw [c6b0]) | rw [c6b2] | skip)
  by_cases c7 : 6 + a2.size ≤ 9223372036854775807
  rotate_left
  ·rw [if_neg c7] at H
   exact absurd H (by simp)
  rw [if_pos c7] at H
  have c7b0 := eq_true c7
  have c7b1 : decide (6 + a2.size ≤ 9223372036854775807) = true := decide_eq_true c7
  try have c7b2 : (9223372036854775807 < 6 + a2.size) = False := eq_false (Nat.not_lt.2 c7)
  have H' := Aside0.mk H
  clear H
  go_wp2
  go_meet
  case rel => exact ⟨_, ((⟨#[120, 109, 108, 110, 115, 58]⟩ : ByteArray) ++ a2), aR, H', ⟨by first | omega | exact Nat.le_refl _⟩, by repeat (first | exact Drawn0.refl _ | apply Drawn0.step)⟩
 case rest =>
  clear HC5
  try clear p2
  try clear c4
  try clear c4b0
  try clear c4b1
  try clear c5
  try clear c6
  try clear c6b0
  try clear c6b1
  try clear c7
  try clear c7b0
  try clear c7b1
  try clear c7b2
  obtain ⟨kq, x8_4, rfl, HA, HJ4, ⟨mc4, rfl⟩⟩ := hcut
  cases kq with
  | zero => exact absurd HA.out (by simp [spec_l3Bound.j0])
  | succ kj4 =>
   have H := HA.out
   clear HA
   simp only [spec_l3Bound.j0] at H
   have H' := Aside0.mk H
   clear H
   go_wp2
   go_loopg [9] kj4 (fun kq v9 w' => ∃ (x9_2 : Int), v9 = .int .i64 x9_2 ∧ Aside0 (spec_l3Bound.l0 kq l0 a2 x8_4 x9_2 = some (r1, r2)) ∧ Aside0 (kq ≤ kj4) ∧ Drawn0 w w')
   case atStart => exact ⟨(a1), aR, H', ⟨Nat.le_refl _⟩, by repeat (first | exact Drawn0.refl _ | apply Drawn0.step)⟩
   case round =>
    clear H'
    try clear p2
    try clear c4
    try clear c4b0
    try clear c4b1
    try clear c5
    try clear c6
    try clear c6b0
    try clear c6b1
    try clear c7
    try clear c7b0
    try clear c7b1
    try clear c7b2
    try clear p2
    obtain ⟨x9_2, rfl, HA, HK2, ⟨m2, rfl⟩⟩ := hrel
    cases gk with
    | zero => exact absurd HA.out (by simp [spec_l3Bound.l0])
    | succ k2 =>
     have H := HA.out
     clear HA
     simp only [spec_l3Bound.l0] at H
     by_cases c8 : x9_2 ≥ 0
     rotate_left
     ·rw [if_neg c8] at H
      have c8b0 : decide (0 ≤ x9_2) = false := decide_eq_false c8
      clear c8
      simp only [Option.some.injEq, Prod.mk.injEq] at H
      obtain ⟨rfl, rfl⟩ := H
      go_wp2
      go_ret2
      exact ⟨by first | rfl | (simp only [aX1, aX2]; rfl) | (simp; done) | (simp [*]; done), by repeat (first | exact Drawn0.refl _ | apply Drawn0.step)⟩
     rw [if_pos c8] at H
     have c8b0 : decide (0 ≤ x9_2) = true := decide_eq_true c8
     clear c8
     have H' := Aside0.mk H
     clear H
     go_wp2
     go_loopg [10] k2 (fun kq v10 w' => ∃ (x10_3 : Int), v10 = .int .i64 x10_3 ∧ Aside0 (spec_l3Bound.l1 kq l0 a2 x8_4 x9_2 x10_3 = some (r1, r2)) ∧ Aside0 (kq ≤ k2) ∧ Drawn0 w w')
     case atStart => exact ⟨(0), aR, H', ⟨Nat.le_refl _⟩, by repeat (first | exact Drawn0.refl _ | apply Drawn0.step)⟩
     case round =>
      clear H'
      try clear p2
      try clear c4
      try clear c4b0
      try clear c4b1
      try clear c5
      try clear c6
      try clear c6b0
      try clear c6b1
      try clear c7
      try clear c7b0
      try clear c7b1
      try clear c7b2
      try clear c8
      try clear c8b0
      try clear p2
      obtain ⟨x10_3, rfl, HA, HK3, ⟨m3, rfl⟩⟩ := hrel
      cases gk with
      | zero => exact absurd HA.out (by simp [spec_l3Bound.l1])
      | succ k3 =>
       have H := HA.out
       clear HA
       simp only [spec_l3Bound.l1] at H
       by_cases c9 : 0 ≤ x9_2
       rotate_left
       ·rw [if_neg c9] at H
        exact absurd H (by simp)
       rw [if_pos c9] at H
       have c9b0 : decide (0 ≤ x9_2) = true := decide_eq_true c9
       clear c9
       by_cases c10 : x9_2 < (l0.length : Int)
       rotate_left
       ·rw [if_neg c10] at H
        exact absurd H (by simp)
       rw [if_pos c10] at H
       have c10b0 : decide (x9_2 < (l0.length : Int)) = true := decide_eq_true c10
       clear c10
       by_cases c11 : x10_3 < (((rd_T74 l0 x9_2).f3).length : Int)
       rotate_left
       ·rw [if_neg c11] at H
        have c11b0 : decide (x10_3 < (((rd_T74 l0 x9_2).f3).length : Int)) = false := decide_eq_false c11
        clear c11
        have H' := Aside0.mk H
        clear H
        have p213 : 0 ≤ (x9_2 : Int) := aD
        have q213 : x9_2 < (l0.length : Int) := aD
        obtain ⟨ad213, A213_3, c213_3, e213, hx213_0, hx213_1, hx213_2, hx213_3, hl213_3, hi213_3⟩ := at_T74 HR0.out x9_2 p213 q213
        cases e213
        have HR213_3 := Aside0.mk hi213_3
        have HC213_3 := Aside0.mk hl213_3
        clear hi213_3 hl213_3
        replace p213 := eq_true p213
        replace q213 := eq_true q213
        have p218 : 0 ≤ (x9_2 : Int) := aD
        have q218 : x9_2 < (l0.length : Int) := aD
        obtain ⟨ad218, A218_3, c218_3, e218, hx218_0, hx218_1, hx218_2, hx218_3, hl218_3, hi218_3⟩ := at_T74 HR0.out x9_2 p218 q218
        obtain rfl : ad213 = ad218 := (by injection e218)
        have HR218_3 := Aside0.mk hi218_3
        have HC218_3 := Aside0.mk hl218_3
        clear hi218_3 hl218_3
        replace p218 := eq_true p218
        replace q218 := eq_true q218
        have ea_ := Option.some.inj (hx213_3.symm.trans hx218_3)
        injection ea_ with ea_ en_ ec_
        subst ea_
        subst ec_
        clear en_
        go_wp2
        go_roundg k3
        case measure => have := HJ4.out; have := HK2.out; have := HK3.out; omega
        case rel => exact ⟨((rd_T74 l0 x9_2).f0), aR, H', ⟨by have := HJ4.out; have := HK2.out; have := HK3.out; omega⟩, by repeat (first | exact Drawn0.refl _ | apply Drawn0.step)⟩
       rw [if_pos c11] at H
       have c11b0 : decide (x10_3 < (((rd_T74 l0 x9_2).f3).length : Int)) = true := decide_eq_true c11
       clear c11
       by_cases c12 : 0 ≤ x10_3
       rotate_left
       ·rw [if_neg c12] at H
        exact absurd H (by simp)
       rw [if_pos c12] at H
       have c12b0 : decide (0 ≤ x10_3) = true := decide_eq_true c12
       clear c12
       by_cases c13 : ((rd_T76 ((rd_T74 l0 x9_2).f3) x10_3).f0).toList = x8_4.toList
       rotate_left
       ·rw [if_neg c13] at H
        have c13b0 : (((rd_T76 ((rd_T74 l0 x9_2).f3) x10_3).f0).toList == x8_4.toList) = false := beq_eq_false_iff_ne.mpr c13
        have c13b1 : (((rd_T76 ((rd_T74 l0 x9_2).f3) x10_3).f0).toList != x8_4.toList) = true := bne_iff_ne.mpr c13
        have H' := Aside0.mk H
        clear H
        have p213 : 0 ≤ (x9_2 : Int) := aD
        have q213 : x9_2 < (l0.length : Int) := aD
        obtain ⟨ad213, A213_3, c213_3, e213, hx213_0, hx213_1, hx213_2, hx213_3, hl213_3, hi213_3⟩ := at_T74 HR0.out x9_2 p213 q213
        cases e213
        have HR213_3 := Aside0.mk hi213_3
        have HC213_3 := Aside0.mk hl213_3
        clear hi213_3 hl213_3
        replace p213 := eq_true p213
        replace q213 := eq_true q213
        have p214 : 0 ≤ (x9_2 : Int) := aD
        have q214 : x9_2 < (l0.length : Int) := aD
        obtain ⟨ad214, A214_3, c214_3, e214, hx214_0, hx214_1, hx214_2, hx214_3, hl214_3, hi214_3⟩ := at_T74 HR0.out x9_2 p214 q214
        obtain rfl : ad213 = ad214 := (by injection e214)
        have HR214_3 := Aside0.mk hi214_3
        have HC214_3 := Aside0.mk hl214_3
        clear hi214_3 hl214_3
        replace p214 := eq_true p214
        replace q214 := eq_true q214
        have ea_ := Option.some.inj (hx213_3.symm.trans hx214_3)
        injection ea_ with ea_ en_ ec_
        subst ea_
        subst ec_
        clear en_
        have p215 : 0 ≤ (x10_3 : Int) := aD
        have q215 : x10_3 < (((rd_T74 l0 x9_2).f3).length : Int) := aD
        obtain ⟨ad215, e215, hx215_0, hx215_1⟩ := at_T76 HR214_3.out x10_3 p215 q215
        cases e215
        replace p215 := eq_true p215
        replace q215 := eq_true q215
        go_wp2
        go_roundg k3
        case measure => have := HJ4.out; have := HK2.out; have := HK3.out; omega
        case rel => exact ⟨(wrap64 (x10_3 + 1)), aR, H', ⟨by have := HJ4.out; have := HK2.out; have := HK3.out; omega⟩, by repeat (first | exact Drawn0.refl _ | apply Drawn0.step)⟩
       rw [if_pos c13] at H
       have c13b0 : (((rd_T76 ((rd_T74 l0 x9_2).f3) x10_3).f0).toList == x8_4.toList) = true := beq_iff_eq.mpr c13
       have c13b1 : (((rd_T76 ((rd_T74 l0 x9_2).f3) x10_3).f0).toList != x8_4.toList) = false := bne_eq_false_iff_eq.mpr c13
       clear c13
       by_cases c14 : ((rd_T76 ((rd_T74 l0 x9_2).f3) x10_3).f1).toList = ([] : List UInt8)
       rotate_left
       ·rw [if_neg c14] at H
        have c14b0 : (((rd_T76 ((rd_T74 l0 x9_2).f3) x10_3).f1).toList == ([] : List UInt8)) = false := beq_eq_false_iff_ne.mpr c14
        have c14b1 : (((rd_T76 ((rd_T74 l0 x9_2).f3) x10_3).f1).toList != ([] : List UInt8)) = true := bne_iff_ne.mpr c14
        have c14b2 : (((rd_T76 ((rd_T74 l0 x9_2).f3) x10_3).f1)).toList.isEmpty = false := by (first | exact (List.isEmpty_iff.mpr (eq_of_beq c14b0)) | exact (Bool.eq_false_iff.mpr (fun h_ => by rw [List.isEmpty_iff.mp h_] at c14b0; cases c14b0)))
        simp only [Option.some.injEq, Prod.mk.injEq] at H
        obtain ⟨rfl, rfl⟩ := H
        have p213 : 0 ≤ (x9_2 : Int) := aD
        have q213 : x9_2 < (l0.length : Int) := aD
        obtain ⟨ad213, A213_3, c213_3, e213, hx213_0, hx213_1, hx213_2, hx213_3, hl213_3, hi213_3⟩ := at_T74 HR0.out x9_2 p213 q213
        cases e213
        have HR213_3 := Aside0.mk hi213_3
        have HC213_3 := Aside0.mk hl213_3
        clear hi213_3 hl213_3
        replace p213 := eq_true p213
        replace q213 := eq_true q213
        have p214 : 0 ≤ (x9_2 : Int) := aD
        have q214 : x9_2 < (l0.length : Int) := aD
        obtain ⟨ad214, A214_3, c214_3, e214, hx214_0, hx214_1, hx214_2, hx214_3, hl214_3, hi214_3⟩ := at_T74 HR0.out x9_2 p214 q214
        obtain rfl : ad213 = ad214 := (by injection e214)
        have HR214_3 := Aside0.mk hi214_3
        have HC214_3 := Aside0.mk hl214_3
        clear hi214_3 hl214_3
        replace p214 := eq_true p214
        replace q214 := eq_true q214
        have ea_ := Option.some.inj (hx213_3.symm.trans hx214_3)
        injection ea_ with ea_ en_ ec_
        subst ea_
        subst ec_
        clear en_
        have p215 : 0 ≤ (x10_3 : Int) := aD
        have q215 : x10_3 < (((rd_T74 l0 x9_2).f3).length : Int) := aD
        obtain ⟨ad215, e215, hx215_0, hx215_1⟩ := at_T76 HR214_3.out x10_3 p215 q215
        cases e215
        replace p215 := eq_true p215
        replace q215 := eq_true q215
        have p216 : 0 ≤ (x9_2 : Int) := aD
        have q216 : x9_2 < (l0.length : Int) := aD
        obtain ⟨ad216, A216_3, c216_3, e216, hx216_0, hx216_1, hx216_2, hx216_3, hl216_3, hi216_3⟩ := at_T74 HR0.out x9_2 p216 q216
        obtain rfl : ad213 = ad216 := (by injection e216)
        have HR216_3 := Aside0.mk hi216_3
        have HC216_3 := Aside0.mk hl216_3
        clear hi216_3 hl216_3
        replace p216 := eq_true p216
        replace q216 := eq_true q216
        have ea_ := Option.some.inj (hx213_3.symm.trans hx216_3)
        injection ea_ with ea_ en_ ec_
        subst ea_
        subst ec_
        clear en_
        have p217 : 0 ≤ (x10_3 : Int) := aD
        have q217 : x10_3 < (((rd_T74 l0 x9_2).f3).length : Int) := aD
        obtain ⟨ad217, e217, hx217_0, hx217_1⟩ := at_T76 HR216_3.out x10_3 p217 q217
        cases e217
        replace p217 := eq_true p217
        replace q217 := eq_true q217
        go_wp2
        go_ret2
        exact ⟨by first | rfl | (simp only [aX1, aX2]; rfl) | (simp; done) | (simp [*]; done), by repeat (first | exact Drawn0.refl _ | apply Drawn0.step)⟩
       rw [if_pos c14] at H
       have c14b0 : (((rd_T76 ((rd_T74 l0 x9_2).f3) x10_3).f1).toList == ([] : List UInt8)) = true := beq_iff_eq.mpr c14
       have c14b1 : (((rd_T76 ((rd_T74 l0 x9_2).f3) x10_3).f1).toList != ([] : List UInt8)) = false := bne_eq_false_iff_eq.mpr c14
       have c14b2 : (((rd_T76 ((rd_T74 l0 x9_2).f3) x10_3).f1)).toList.isEmpty = true := by (first | exact (List.isEmpty_iff.mpr (eq_of_beq c14b0)) | exact (Bool.eq_false_iff.mpr (fun h_ => by rw [List.isEmpty_iff.mp h_] at c14b0; cases c14b0)))
       clear c14
       simp only [Option.some.injEq, Prod.mk.injEq] at H
       obtain ⟨rfl, rfl⟩ := H
       have p213 : 0 ≤ (x9_2 : Int) := aD
       have q213 : x9_2 < (l0.length : Int) := aD
       obtain ⟨ad213, A213_3, c213_3, e213, hx213_0, hx213_1, hx213_2, hx213_3, hl213_3, hi213_3⟩ := at_T74 HR0.out x9_2 p213 q213
       cases e213
       have HR213_3 := Aside0.mk hi213_3
       have HC213_3 := Aside0.mk hl213_3
       clear hi213_3 hl213_3
       replace p213 := eq_true p213
       replace q213 := eq_true q213
       have p214 : 0 ≤ (x9_2 : Int) := aD
       have q214 : x9_2 < (l0.length : Int) := aD
       obtain ⟨ad214, A214_3, c214_3, e214, hx214_0, hx214_1, hx214_2, hx214_3, hl214_3, hi214_3⟩ := at_T74 HR0.out x9_2 p214 q214
       obtain rfl : ad213 = ad214 := (by injection e214)
       have HR214_3 := Aside0.mk hi214_3
       have HC214_3 := Aside0.mk hl214_3
       clear hi214_3 hl214_3
       replace p214 := eq_true p214
       replace q214 := eq_true q214
       have ea_ := Option.some.inj (hx213_3.symm.trans hx214_3)
       injection ea_ with ea_ en_ ec_
       subst ea_
       subst ec_
       clear en_
       have p215 : 0 ≤ (x10_3 : Int) := aD
       have q215 : x10_3 < (((rd_T74 l0 x9_2).f3).length : Int) := aD
       obtain ⟨ad215, e215, hx215_0, hx215_1⟩ := at_T76 HR214_3.out x10_3 p215 q215
       cases e215
       replace p215 := eq_true p215
       replace q215 := eq_true q215
       have p216 : 0 ≤ (x9_2 : Int) := aD
       have q216 : x9_2 < (l0.length : Int) := aD
       obtain ⟨ad216, A216_3, c216_3, e216, hx216_0, hx216_1, hx216_2, hx216_3, hl216_3, hi216_3⟩ := at_T74 HR0.out x9_2 p216 q216
       obtain rfl : ad213 = ad216 := (by injection e216)
       have HR216_3 := Aside0.mk hi216_3
       have HC216_3 := Aside0.mk hl216_3
       clear hi216_3 hl216_3
       replace p216 := eq_true p216
       replace q216 := eq_true q216
       have ea_ := Option.some.inj (hx213_3.symm.trans hx216_3)
       injection ea_ with ea_ en_ ec_
       subst ea_
       subst ec_
       clear en_
       have p217 : 0 ≤ (x10_3 : Int) := aD
       have q217 : x10_3 < (((rd_T74 l0 x9_2).f3).length : Int) := aD
       obtain ⟨ad217, e217, hx217_0, hx217_1⟩ := at_T76 HR216_3.out x10_3 p217 q217
       cases e217
       replace p217 := eq_true p217
       replace q217 := eq_true q217
       go_wp2
       go_ret2
       exact ⟨by first | rfl | (simp only [aX1, aX2]; rfl) | (simp; done) | (simp [*]; done), by repeat (first | exact Drawn0.refl _ | apply Drawn0.step)⟩
end Go.Proofs.YtbhklkpjjpkblaaDoor.PI
