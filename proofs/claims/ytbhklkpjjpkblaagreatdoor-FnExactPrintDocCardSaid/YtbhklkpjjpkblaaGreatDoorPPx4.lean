import Derived.Test.YtbhklkpjjpkblaaGreatDoorHShort
import Derived.Test.YtbhklkpjjpkblaaGreatDoorPPx0
import Derived.Test.YtbhklkpjjpkblaaGreatDoorPPx3
namespace Go.Proofs.YtbhklkpjjpkblaaGreatDoor.PP
open Go.RowKit Go.Proofs.YtbhklkpjjpkblaaGreatDoorW.PrintWords Go.Proofs.YtbhklkpjjpkblaaGreatDoorW.PrintLast Go.Proofs.YtbhklkpjjpkblaaGreatDoorW.PrintMore Go.Proofs.YtbhklkpjjpkblaaGreatDoorW.WordsB Go.Proofs.YtbhklkpjjpkblaaGreatDoorW.GlM Go.Proofs.YtbhklkpjjpkblaaGreatDoorW.Short
attribute [local go_sem] max2_int min2_int max_two min_two max_three min_three max_four min_four
set_option linter.unusedVariables false
set_option linter.unusedSimpArgs false
def spec_l1Qual.f (k : Nat) (a0 : ByteArray) : Option (Bool) := (spec_Split.f k a0).bind fun bt137 => (some bt137.2.2)
set_option maxHeartbeats 8000000 in
set_option maxRecDepth 100000 in
theorem spec_l1Qual.calls (k : Nat) (a0 : ByteArray) (r : Bool) (w : World) (h : spec_l1Qual.f k a0 = some r) :
  Calls Tryz.prog 22 #[.string a0] w fun e w' => e = .returned (.bool r) ∧ Drawn0 w w' := by
 have H : ((spec_Split.f k a0).bind fun bt137 => (some bt137.2.2)) = some r := h
 clear h
 replace H := Option.bind_eq_some_iff.mp H
 obtain ⟨⟨t137, t138, t139⟩, A20, H⟩ := H
 replace H : (some t139) = some r := H
 have A2 := Aside0.mk A20
 clear A20
 obtain rfl := Option.some.inj H
 go_enter Tryz.func22, Tryz.ntmps22
 go_wp2_with (first | ((with_reducible refine gate_callee (f := 35) rfl ?_); refine goesL_ (some 8) rfl rfl Tryz.func35 (by kernel_rfl) rfl #[.string a0] rfl aG ?_; (with_reducible refine (spec_Split.calls k a0 t137 t138 t139 _ A2.out).mono ?_); rintro e w' ⟨rfl, ⟨nd, rfl⟩⟩; refine ⟨_, rfl, ?_⟩))
 go_ret
 exact ⟨by first | rfl | (simp; done) | (simp [*]; done), by repeat (first | exact Drawn0.refl _ | apply Drawn0.step)⟩
mutual
def spec_l2Attrs.l0 : Nat → List (S52) → Int → Option (Bool)
 | 0, _, _ => none
 | k + 1, x0, x3 => if x3 < (x0.length : Int) then (if 0 ≤ x3 then ((spec_l1Qual.f k ((rd_T52 x0 x3).f0)).bind fun t141 => (if t141 = true then ((spec_l1Text.f k ((rd_T52 x0 x3).f1)).bind fun t143 => (spec_l2Attrs.j1 k x0 x3 (!t143))) else (spec_l2Attrs.j1 k x0 x3 true))) else (none)) else (some true)
def spec_l2Attrs.j1 : Nat → List (S52) → Int → Bool → Option (Bool)
 | 0, _, _, _ => none
 | k + 1, x0, x3, x29 => if x29 = true then (some false) else (spec_l2Attrs.l1 k x0 x3 0)
def spec_l2Attrs.l1 : Nat → List (S52) → Int → Int → Option (Bool)
 | 0, _, _, _ => none
 | k + 1, x0, x3, x4 => if x4 < x3 then (if 0 ≤ x4 then (if x4 < (x0.length : Int) then (if 0 ≤ x3 then (if x3 < (x0.length : Int) then (if ((rd_T52 x0 x4).f0).toList = ((rd_T52 x0 x3).f0).toList then (some false) else (spec_l2Attrs.l1 k x0 x3 (wrap64 (x4 + 1)))) else (none)) else (none)) else (none)) else (none)) else (spec_l2Attrs.l0 k x0 (wrap64 (x3 + 1)))
end
def spec_l2Attrs.f (k : Nat) (l0 : List (S52)) : Option (Bool) := if (l0.length : Int) > 10 then (some false) else (spec_l2Attrs.l0 k l0 0)
set_option maxHeartbeats 8000000 in
set_option maxRecDepth 100000 in
theorem spec_l2Attrs.calls (k : Nat) (A0 : Option Addr) (c0 : Nat) (l0 : List (S52)) (r : Bool) (w : World) (hr0 : Kd.C k52 w A0 l0.length l0) (hc0 : l0.length ≤ c0) (h : spec_l2Attrs.f k l0 = some r) :
  Calls Tryz.prog 23 #[.slice A0 l0.length c0] w fun e w' => e = .returned (.bool r) ∧ Below w.heap.size w w' := by
 have HR0 := Aside0.mk hr0
 have HC0 := Aside0.mk hc0
 clear hr0 hc0
 have HB := Aside0.mk (Below.refl w.heap.size w)
 have H : (if (l0.length : Int) > 10 then (some false) else (spec_l2Attrs.l0 k l0 0)) = some r := h
 clear h
 by_cases c2 : (l0.length : Int) > 10
 ·rw [if_pos c2] at H
  have c2b0 : decide (10 < (l0.length : Int)) = true := decide_eq_true c2
  have c2b1 : decide (10 < l0.length) = true := decide_eq_true (by omega)
  clear c2
  obtain rfl := Option.some.inj H
  go_enter Tryz.func23, Tryz.ntmps23
  go_wp2
  repeat (go_quiet (fail); try go_wp2)
  go_ret
  exact ⟨aS, aB⟩
 rw [if_neg c2] at H
 have c2b0 : decide (10 < (l0.length : Int)) = false := decide_eq_false c2
 have c2b1 : decide (10 < l0.length) = false := decide_eq_false (by omega)
 clear c2
 have H' := Aside0.mk H
 clear H
 go_enter Tryz.func23, Tryz.ntmps23
 go_wp2
 repeat (go_quiet (fail); try go_wp2)
 go_loopg [3] k (fun kq v3 w' => ∃ (x3_1 : Int), v3 = .int .i64 x3_1 ∧ Aside0 (spec_l2Attrs.l0 kq l0 x3_1 = some r) ∧ Aside0 (kq ≤ k) ∧ Aside0 (Below w.heap.size w w'))
 case atStart => exact ⟨(0), aR, H', ⟨Nat.le_refl _⟩, ⟨aB⟩⟩
 case round =>
  clear H'
  try clear c2
  try clear c2b0
  try clear c2b1
  try clear p2
  obtain ⟨x3_1, rfl, HA, HK1, HB⟩ := hrel
  cases gk with
  | zero => exact absurd HA.out (by simp [spec_l2Attrs.l0])
  | succ k1 =>
   have H := HA.out
   clear HA
   simp only [spec_l2Attrs.l0] at H
   by_cases c3 : x3_1 < (l0.length : Int)
   rotate_left
   ·rw [if_neg c3] at H
    have c3b0 : decide (x3_1 < (l0.length : Int)) = false := decide_eq_false c3
    clear c3
    obtain rfl := Option.some.inj H
    go_wp2
    repeat (go_quiet (fail); try go_wp2)
    go_ret
    exact ⟨aS, aB⟩
   rw [if_pos c3] at H
   have c3b0 : decide (x3_1 < (l0.length : Int)) = true := decide_eq_true c3
   clear c3
   have HC4 := Aside0.mk H
   clear H
   go_upto_region 6 with (fail)
   repeat (go_quiet (fail); go_upto_region 6 with (fail))
   go_cut [29] (fun v29 wc => ∃ (kq : Nat) (x29_3 : Bool), v29 = .bool x29_3 ∧ Aside0 (spec_l2Attrs.j1 kq l0 x3_1 x29_3 = some r) ∧ Aside0 (kq ≤ k1) ∧ Aside0 (Below w.heap.size w wc))
   case first =>
    have H := HC4.out
    clear HC4
    by_cases c5 : 0 ≤ x3_1
    rotate_left
    ·rw [if_neg c5] at H
     exact absurd H (by simp)
    rw [if_pos c5] at H
    have c5b0 : decide (0 ≤ x3_1) = true := decide_eq_true c5
    clear c5
    (first | rw [c5b0] | (simp only [i64_w, i32_w]; rw [c5b0]) | skip)
    replace H := Option.bind_eq_some_iff.mp H
    obtain ⟨t141, A60, H⟩ := H
    replace H : (if t141 = true then ((spec_l1Text.f k1 ((rd_T52 l0 x3_1).f1)).bind fun t143 => (spec_l2Attrs.j1 k1 l0 x3_1 (!t143))) else (spec_l2Attrs.j1 k1 l0 x3_1 true)) = some r := H
    have A6 := Aside0.mk A60
    clear A60
    by_cases c7 : t141 = true
    rotate_left
    ·replace c7 := Bool.eq_false_iff.mpr c7
     subst c7
     have H1 : (spec_l2Attrs.j1 k1 l0 x3_1 true) = some r := by rw [if_neg (show ¬ (false = true) by decide)] at H; exact H
     clear H
     have H := H1
     clear H1
     have H' := Aside0.mk H
     clear H
     have p140 : 0 ≤ (x3_1 : Int) := aD
     have q140 : x3_1 < (l0.length : Int) := aD
     obtain ⟨ad140, e140, hx140_0, hx140_1⟩ := at_T52 HR0.out x3_1 p140 q140
     cases e140
     replace hx140_0 := (HB.out.cell (World.block_lt_of_cell? w _ hx140_0)).trans hx140_0
     replace hx140_1 := (HB.out.cell (World.block_lt_of_cell? w _ hx140_1)).trans hx140_1
     replace p140 := eq_true p140
     replace q140 := eq_true q140
     go_wp2_with (first | (go_at_call 22; (with_reducible refine (spec_l1Qual.calls k1 ((rd_T52 l0 x3_1).f0) false _ A6.out).mono ?_); rintro e w' ⟨rfl, ⟨nd, rfl⟩⟩; (try first | exact aZ1 | exact aZ2)))
     repeat (go_quiet (first | (go_at_call 22; (with_reducible refine (spec_l1Qual.calls k1 ((rd_T52 l0 x3_1).f0) false _ A6.out).mono ?_); rintro e w' ⟨rfl, ⟨nd, rfl⟩⟩; (try first | exact aZ1 | exact aZ2))); try go_wp2_with (first | (go_at_call 22; (with_reducible refine (spec_l1Qual.calls k1 ((rd_T52 l0 x3_1).f0) false _ A6.out).mono ?_); rintro e w' ⟨rfl, ⟨nd, rfl⟩⟩; (try first | exact aZ1 | exact aZ2))))
     go_meet
     case rel => exact ⟨_, (true), aR, H', ⟨by have := HK1.out; first | omega | exact Nat.le_refl _⟩, ⟨aB⟩⟩
    subst c7
    have H1 : ((spec_l1Text.f k1 ((rd_T52 l0 x3_1).f1)).bind fun t143 => (spec_l2Attrs.j1 k1 l0 x3_1 (!t143))) = some r := by rw [if_pos rfl] at H; exact H
    clear H
    have H := H1
    clear H1
    replace H := Option.bind_eq_some_iff.mp H
    obtain ⟨t143, A80, H⟩ := H
    replace H : (spec_l2Attrs.j1 k1 l0 x3_1 (!t143)) = some r := H
    have A8 := Aside0.mk A80
    clear A80
    have H' := Aside0.mk H
    clear H
    have p140 : 0 ≤ (x3_1 : Int) := aD
    have q140 : x3_1 < (l0.length : Int) := aD
    obtain ⟨ad140, e140, hx140_0, hx140_1⟩ := at_T52 HR0.out x3_1 p140 q140
    cases e140
    replace hx140_0 := (HB.out.cell (World.block_lt_of_cell? w _ hx140_0)).trans hx140_0
    replace hx140_1 := (HB.out.cell (World.block_lt_of_cell? w _ hx140_1)).trans hx140_1
    replace p140 := eq_true p140
    replace q140 := eq_true q140
    go_wp2_with (first | (go_at_call 22; (with_reducible refine (spec_l1Qual.calls k1 ((rd_T52 l0 x3_1).f0) true _ A6.out).mono ?_); rintro e w' ⟨rfl, ⟨nd, rfl⟩⟩; (try first | exact aZ1 | exact aZ2); have p142 : 0 ≤ (x3_1 : Int) := aD; have q142 : x3_1 < (l0.length : Int) := aD; obtain ⟨ad142, e142, hx142_0, hx142_1⟩ := at_T52 HR0.out x3_1 p142 q142; obtain rfl : ad140 = ad142 := (by injection e142); replace hx142_0 := (HB.out.cell (World.block_lt_of_cell? w _ hx142_0)).trans hx142_0; replace hx142_1 := (HB.out.cell (World.block_lt_of_cell? w _ hx142_1)).trans hx142_1; replace p142 := eq_true p142; replace q142 := eq_true q142) | (go_at_call 21; (with_reducible refine (spec_l1Text.calls k1 ((rd_T52 l0 x3_1).f1) t143 _ A8.out).mono ?_); rintro e w9 ⟨rfl, hb⟩; have n0_ := Aside0.mk (below_step aB hb); clear HB; have HB := n0_; clear n0_; (try clear hb); (try clear hb2); (try clear hk); (try clear hi)))
    repeat (go_quiet (first | (go_at_call 22; (with_reducible refine (spec_l1Qual.calls k1 ((rd_T52 l0 x3_1).f0) true _ A6.out).mono ?_); rintro e w' ⟨rfl, ⟨nd, rfl⟩⟩; (try first | exact aZ1 | exact aZ2); have p142 : 0 ≤ (x3_1 : Int) := aD; have q142 : x3_1 < (l0.length : Int) := aD; obtain ⟨ad142, e142, hx142_0, hx142_1⟩ := at_T52 HR0.out x3_1 p142 q142; obtain rfl : ad140 = ad142 := (by injection e142); replace hx142_0 := (HB.out.cell (World.block_lt_of_cell? w _ hx142_0)).trans hx142_0; replace hx142_1 := (HB.out.cell (World.block_lt_of_cell? w _ hx142_1)).trans hx142_1; replace p142 := eq_true p142; replace q142 := eq_true q142) | (go_at_call 21; (with_reducible refine (spec_l1Text.calls k1 ((rd_T52 l0 x3_1).f1) t143 _ A8.out).mono ?_); rintro e w9 ⟨rfl, hb⟩; have n0_ := Aside0.mk (below_step aB hb); clear HB; have HB := n0_; clear n0_; (try clear hb); (try clear hb2); (try clear hk); (try clear hi))); try go_wp2_with (first | (go_at_call 22; (with_reducible refine (spec_l1Qual.calls k1 ((rd_T52 l0 x3_1).f0) true _ A6.out).mono ?_); rintro e w' ⟨rfl, ⟨nd, rfl⟩⟩; (try first | exact aZ1 | exact aZ2); have p142 : 0 ≤ (x3_1 : Int) := aD; have q142 : x3_1 < (l0.length : Int) := aD; obtain ⟨ad142, e142, hx142_0, hx142_1⟩ := at_T52 HR0.out x3_1 p142 q142; obtain rfl : ad140 = ad142 := (by injection e142); replace hx142_0 := (HB.out.cell (World.block_lt_of_cell? w _ hx142_0)).trans hx142_0; replace hx142_1 := (HB.out.cell (World.block_lt_of_cell? w _ hx142_1)).trans hx142_1; replace p142 := eq_true p142; replace q142 := eq_true q142) | (go_at_call 21; (with_reducible refine (spec_l1Text.calls k1 ((rd_T52 l0 x3_1).f1) t143 _ A8.out).mono ?_); rintro e w9 ⟨rfl, hb⟩; have n0_ := Aside0.mk (below_step aB hb); clear HB; have HB := n0_; clear n0_; (try clear hb); (try clear hb2); (try clear hk); (try clear hi))))
    go_meet
    case rel => exact ⟨_, (!t143), aR, H', ⟨by have := HK1.out; first | omega | exact Nat.le_refl _⟩, ⟨aB⟩⟩
   case rest =>
    clear HC4
    try clear p1
    try clear q1
    try clear hx1
    try clear c2
    try clear c2b0
    try clear c2b1
    try clear p2
    try clear c3
    try clear c3b0
    try clear c5
    try clear c5b0
    try clear c7
    try clear hx140_0
    try clear hx140_1
    try clear hx142_0
    try clear hx142_1
    try clear p140
    try clear p142
    try clear p2
    try clear q140
    try clear q142
    obtain ⟨kq, x29_3, rfl, HA, HJ3, HB⟩ := hcut
    cases kq with
    | zero => exact absurd HA.out (by simp [spec_l2Attrs.j1])
    | succ kj3 =>
     have H := HA.out
     clear HA
     simp only [spec_l2Attrs.j1] at H
     by_cases c10 : x29_3 = true
     ·subst c10
      have H1 : (some false) = some r := by rw [if_pos rfl] at H; exact H
      clear H
      have H := H1
      clear H1
      obtain rfl := Option.some.inj H
      go_wp2
      repeat (go_quiet (fail); try go_wp2)
      go_ret
      exact ⟨aS, aB⟩
     replace c10 := Bool.eq_false_iff.mpr c10
     subst c10
     have H1 : (spec_l2Attrs.l1 kj3 l0 x3_1 0) = some r := by rw [if_neg (show ¬ (false = true) by decide)] at H; exact H
     clear H
     have H := H1
     clear H1
     have H' := Aside0.mk H
     clear H
     go_wp2
     repeat (go_quiet (fail); try go_wp2)
     go_loopg [4] kj3 (fun kq v4 w' => ∃ (x4_3 : Int), v4 = .int .i64 x4_3 ∧ Aside0 (spec_l2Attrs.l1 kq l0 x3_1 x4_3 = some r) ∧ Aside0 (kq ≤ kj3) ∧ Aside0 (Below w.heap.size w w'))
     case atStart => exact ⟨(0), aR, H', ⟨Nat.le_refl _⟩, ⟨aB⟩⟩
     case round =>
      clear H'
      try clear c1
      try clear p1
      try clear q1
      try clear hx1
      try clear c2
      try clear c2b0
      try clear c2b1
      try clear p2
      try clear c3
      try clear c3b0
      try clear c5
      try clear c5b0
      try clear c7
      try clear c10
      try clear hx140_0
      try clear hx140_1
      try clear hx142_0
      try clear hx142_1
      try clear p1
      try clear p140
      try clear p142
      try clear p2
      try clear q1
      try clear q140
      try clear q142
      obtain ⟨x4_3, rfl, HA, HK3, HB⟩ := hrel
      cases gk with
      | zero => exact absurd HA.out (by simp [spec_l2Attrs.l1])
      | succ k3 =>
       have H := HA.out
       clear HA
       simp only [spec_l2Attrs.l1] at H
       by_cases c11 : x4_3 < x3_1
       rotate_left
       ·rw [if_neg c11] at H
        have c11b0 : decide (x4_3 < x3_1) = false := decide_eq_false c11
        clear c11
        have H' := Aside0.mk H
        clear H
        go_wp2
        repeat (go_quiet (fail); try go_wp2)
        go_roundg k3
        case measure => have := HK1.out; have := HJ3.out; have := HK3.out; omega
        case rel => exact ⟨(wrap64 (x3_1 + 1)), aR, H', ⟨by have := HK1.out; have := HJ3.out; have := HK3.out; omega⟩, ⟨aB⟩⟩
       rw [if_pos c11] at H
       have c11b0 : decide (x4_3 < x3_1) = true := decide_eq_true c11
       clear c11
       by_cases c12 : 0 ≤ x4_3
       rotate_left
       ·rw [if_neg c12] at H
        exact absurd H (by simp)
       rw [if_pos c12] at H
       have c12b0 : decide (0 ≤ x4_3) = true := decide_eq_true c12
       clear c12
       by_cases c13 : x4_3 < (l0.length : Int)
       rotate_left
       ·rw [if_neg c13] at H
        exact absurd H (by simp)
       rw [if_pos c13] at H
       have c13b0 : decide (x4_3 < (l0.length : Int)) = true := decide_eq_true c13
       clear c13
       by_cases c14 : 0 ≤ x3_1
       rotate_left
       ·rw [if_neg c14] at H
        exact absurd H (by simp)
       rw [if_pos c14] at H
       have c14b0 : decide (0 ≤ x3_1) = true := decide_eq_true c14
       clear c14
       by_cases c15 : x3_1 < (l0.length : Int)
       rotate_left
       ·rw [if_neg c15] at H
        exact absurd H (by simp)
       rw [if_pos c15] at H
       have c15b0 : decide (x3_1 < (l0.length : Int)) = true := decide_eq_true c15
       clear c15
       by_cases c16 : ((rd_T52 l0 x4_3).f0).toList = ((rd_T52 l0 x3_1).f0).toList
       ·rw [if_pos c16] at H
        have c16b0 : (((rd_T52 l0 x4_3).f0).toList == ((rd_T52 l0 x3_1).f0).toList) = true := beq_iff_eq.mpr c16
        have c16b1 : (((rd_T52 l0 x4_3).f0).toList != ((rd_T52 l0 x3_1).f0).toList) = false := bne_eq_false_iff_eq.mpr c16
        clear c16
        obtain rfl := Option.some.inj H
        have p144 : 0 ≤ (x4_3 : Int) := aD
        have q144 : x4_3 < (l0.length : Int) := aD
        obtain ⟨ad144, e144, hx144_0, hx144_1⟩ := at_T52 HR0.out x4_3 p144 q144
        cases e144
        replace hx144_0 := (HB.out.cell (World.block_lt_of_cell? w _ hx144_0)).trans hx144_0
        replace hx144_1 := (HB.out.cell (World.block_lt_of_cell? w _ hx144_1)).trans hx144_1
        replace p144 := eq_true p144
        replace q144 := eq_true q144
        have p145 : 0 ≤ (x3_1 : Int) := aD
        have q145 : x3_1 < (l0.length : Int) := aD
        obtain ⟨ad145, e145, hx145_0, hx145_1⟩ := at_T52 HR0.out x3_1 p145 q145
        obtain rfl : ad144 = ad145 := (by injection e145)
        replace hx145_0 := (HB.out.cell (World.block_lt_of_cell? w _ hx145_0)).trans hx145_0
        replace hx145_1 := (HB.out.cell (World.block_lt_of_cell? w _ hx145_1)).trans hx145_1
        replace p145 := eq_true p145
        replace q145 := eq_true q145
        go_wp2
        repeat (go_quiet (fail); try go_wp2)
        go_ret
        exact ⟨aS, aB⟩
       rw [if_neg c16] at H
       have c16b0 : (((rd_T52 l0 x4_3).f0).toList == ((rd_T52 l0 x3_1).f0).toList) = false := beq_eq_false_iff_ne.mpr c16
       have c16b1 : (((rd_T52 l0 x4_3).f0).toList != ((rd_T52 l0 x3_1).f0).toList) = true := bne_iff_ne.mpr c16
       have H' := Aside0.mk H
       clear H
       have p144 : 0 ≤ (x4_3 : Int) := aD
       have q144 : x4_3 < (l0.length : Int) := aD
       obtain ⟨ad144, e144, hx144_0, hx144_1⟩ := at_T52 HR0.out x4_3 p144 q144
       cases e144
       replace hx144_0 := (HB.out.cell (World.block_lt_of_cell? w _ hx144_0)).trans hx144_0
       replace hx144_1 := (HB.out.cell (World.block_lt_of_cell? w _ hx144_1)).trans hx144_1
       replace p144 := eq_true p144
       replace q144 := eq_true q144
       have p145 : 0 ≤ (x3_1 : Int) := aD
       have q145 : x3_1 < (l0.length : Int) := aD
       obtain ⟨ad145, e145, hx145_0, hx145_1⟩ := at_T52 HR0.out x3_1 p145 q145
       obtain rfl : ad144 = ad145 := (by injection e145)
       replace hx145_0 := (HB.out.cell (World.block_lt_of_cell? w _ hx145_0)).trans hx145_0
       replace hx145_1 := (HB.out.cell (World.block_lt_of_cell? w _ hx145_1)).trans hx145_1
       replace p145 := eq_true p145
       replace q145 := eq_true q145
       go_wp2
       repeat (go_quiet (fail); try go_wp2)
       go_roundg k3
       case measure => have := HK1.out; have := HJ3.out; have := HK3.out; omega
       case rel => exact ⟨(wrap64 (x4_3 + 1)), aR, H', ⟨by have := HK1.out; have := HJ3.out; have := HK3.out; omega⟩, ⟨aB⟩⟩
end Go.Proofs.YtbhklkpjjpkblaaGreatDoor.PP
