import Derived.Test.YtbhklkpjjpkblaaDoorHShort
import Derived.Test.YtbhklkpjjpkblaaDoorPIx0
import Derived.Test.YtbhklkpjjpkblaaDoorPIx7
namespace Go.Proofs.YtbhklkpjjpkblaaDoor.PI
open Go.RowKit Go.Proofs.YtbhklkpjjpkblaaDoorW.PrintWords Go.Proofs.YtbhklkpjjpkblaaDoorW.PrintLast Go.Proofs.YtbhklkpjjpkblaaDoorW.PrintMore Go.Proofs.YtbhklkpjjpkblaaDoorW.WordsB Go.Proofs.YtbhklkpjjpkblaaDoorW.GlM Go.Proofs.YtbhklkpjjpkblaaDoorW.Short
attribute [local go_sem] max2_int min2_int max_two min_two max_three min_three max_four min_four
set_option linter.unusedVariables false
set_option linter.unusedSimpArgs false
mutual
def spec_Split.l0 : Nat → ByteArray → Int → Int → Option (ByteArray × ByteArray × Bool)
 | 0, _, _, _ => none
 | k + 1, x0, x5, x6 => if x6 < (x0.size : Int) then (spec_Split.j1 k x0 x5 x6 (decide (x5 < 0))) else (spec_Split.j1 k x0 x5 x6 false)
def spec_Split.j1 : Nat → ByteArray → Int → Int → Bool → Option (ByteArray × ByteArray × Bool)
 | 0, _, _, _, _ => none
 | k + 1, x0, x5, x6, x14 => if x14 = true then (if 0 ≤ x6 then (if x6 < (x0.size : Int) then (if (bt x0 x6) = 58 then (spec_Split.l0 k x0 x6 (wrap64 (x6 + 1))) else (spec_Split.l0 k x0 x5 (wrap64 (x6 + 1)))) else (none)) else (none)) else (if x5 < 0 then ((spec_NameOk.f k x0).bind fun t188 => (if t188 = true then (some ((⟨#[]⟩ : ByteArray), x0, true)) else (some ((⟨#[]⟩ : ByteArray), (⟨#[]⟩ : ByteArray), false)))) else (if 0 ≤ x5 then (if x5 ≤ (x0.size : Int) then ((spec_NameOk.f k (x0.extract 0 (x5 : Int).toNat)).bind fun t189 => (if t189 = true then (if 0 ≤ (wrap64 (x5 + 1)) then (if (wrap64 (x5 + 1)) ≤ (x0.size : Int) then ((spec_NameOk.f k (x0.extract ((wrap64 (x5 + 1)) : Int).toNat x0.size)).bind fun t190 => (if t190 = true then (some (x0.extract 0 (x5 : Int).toNat, x0.extract ((wrap64 (x5 + 1)) : Int).toNat x0.size, true)) else (some ((⟨#[]⟩ : ByteArray), (⟨#[]⟩ : ByteArray), false)))) else (none)) else (none)) else (some ((⟨#[]⟩ : ByteArray), (⟨#[]⟩ : ByteArray), false)))) else (none)) else (none)))
end
def spec_Split.f (k : Nat) (a0 : ByteArray) : Option (ByteArray × ByteArray × Bool) := spec_Split.l0 k a0 (-1) 0
set_option maxHeartbeats 8000000 in
set_option maxRecDepth 100000 in
theorem spec_Split.calls (k : Nat) (a0 : ByteArray) (r1 : ByteArray) (r2 : ByteArray) (r3 : Bool) (w : World) (h : spec_Split.f k a0 = some (r1, r2, r3)) :
  Calls Tryd.prog 70 #[.string a0] w fun e w' => e = .returned (.tuple #[.string r1, .string r2, .bool r3]) ∧ Drawn0 w w' := by
 have H : (spec_Split.l0 k a0 (-1) 0) = some (r1, r2, r3) := h
 clear h
 have H' := Aside0.mk H
 clear H
 go_enter Tryd.func70, Tryd.ntmps70
 go_wp2
 repeat (go_quiet (fail); try go_wp2)
 go_loopg [5, 6] k (fun kq v5 v6 w' => ∃ (x5_1 : Int) (x6_1 : Int), v5 = .int .i64 x5_1 ∧ v6 = .int .i64 x6_1 ∧ Aside0 (spec_Split.l0 kq a0 x5_1 x6_1 = some (r1, r2, r3)) ∧ Aside0 (kq ≤ k) ∧ Drawn0 w w')
 case atStart => exact ⟨((-1)), (0), aR, aR, H', ⟨Nat.le_refl _⟩, by repeat (first | exact Drawn0.refl _ | apply Drawn0.step)⟩
 case round =>
  clear H'
  obtain ⟨x5_1, x6_1, rfl, rfl, HA, HK1, ⟨m1, rfl⟩⟩ := hrel
  cases gk with
  | zero => exact absurd HA.out (by simp [spec_Split.l0])
  | succ k1 =>
   have H := HA.out
   clear HA
   simp only [spec_Split.l0] at H
   have HC2 := Aside0.mk H
   clear H
   go_upto_region 3 with (fail)
   repeat (go_quiet (fail); go_upto_region 3 with (fail))
   go_cut [14] (fun v14 wc => ∃ (kq : Nat) (x14_1 : Bool), v14 = .bool x14_1 ∧ Aside0 (spec_Split.j1 kq a0 x5_1 x6_1 x14_1 = some (r1, r2, r3)) ∧ Aside0 (kq ≤ k1) ∧ Drawn0 w wc)
   case first =>
    have H := HC2.out
    clear HC2
    by_cases c3 : x6_1 < (a0.size : Int)
    rotate_left
    ·rw [if_neg c3] at H
     have c3b0 : decide (x6_1 < (a0.size : Int)) = false := decide_eq_false c3
     clear c3
     (first | rw [c3b0] | (simp only [i64_w, i32_w]; rw [c3b0]) | skip)
     have H' := Aside0.mk H
     clear H
     go_wp2
     repeat (go_quiet (fail); try go_wp2)
     go_meet
     case rel => exact ⟨_, (false), aR, H', ⟨by have := HK1.out; first | omega | exact Nat.le_refl _⟩, by repeat (first | exact Drawn0.refl _ | apply Drawn0.step)⟩
    rw [if_pos c3] at H
    have c3b0 : decide (x6_1 < (a0.size : Int)) = true := decide_eq_true c3
    clear c3
    (first | rw [c3b0] | (simp only [i64_w, i32_w]; rw [c3b0]) | skip)
    have H' := Aside0.mk H
    clear H
    go_wp2
    repeat (go_quiet (fail); try go_wp2)
    go_meet
    case rel => exact ⟨_, (decide (x5_1 < 0)), aR, H', ⟨by have := HK1.out; first | omega | exact Nat.le_refl _⟩, by repeat (first | exact Drawn0.refl _ | apply Drawn0.step)⟩
   case rest =>
    clear HC2
    try clear p2
    try clear c3
    try clear c3b0
    obtain ⟨kq, x14_1, rfl, HA, HJ1, ⟨mc1, rfl⟩⟩ := hcut
    cases kq with
    | zero => exact absurd HA.out (by simp [spec_Split.j1])
    | succ kj1 =>
     have H := HA.out
     clear HA
     simp only [spec_Split.j1] at H
     by_cases c4 : x14_1 = true
     ·subst c4
      have H1 : (if 0 ≤ x6_1 then (if x6_1 < (a0.size : Int) then (if (bt a0 x6_1) = 58 then (spec_Split.l0 kj1 a0 x6_1 (wrap64 (x6_1 + 1))) else (spec_Split.l0 kj1 a0 x5_1 (wrap64 (x6_1 + 1)))) else (none)) else (none)) = some (r1, r2, r3) := by rw [if_pos rfl] at H; exact H
      clear H
      have H := H1
      clear H1
      by_cases c5 : 0 ≤ x6_1
      rotate_left
      ·rw [if_neg c5] at H
       exact absurd H (by simp)
      rw [if_pos c5] at H
      have c5b0 : decide (0 ≤ x6_1) = true := decide_eq_true c5
      clear c5
      by_cases c6 : x6_1 < (a0.size : Int)
      rotate_left
      ·rw [if_neg c6] at H
       exact absurd H (by simp)
      rw [if_pos c6] at H
      have c6b0 : decide (x6_1 < (a0.size : Int)) = true := decide_eq_true c6
      clear c6
      by_cases c8 : (bt a0 x6_1) = 58
      rotate_left
      ·rw [if_neg c8] at H
       have c8b0 : ((bt a0 x6_1) == 58) = false := beq_eq_false_iff_ne.mpr c8
       have c8b1 : ((bt a0 x6_1) != 58) = true := bne_iff_ne.mpr c8
       have H' := Aside0.mk H
       clear H
       have p7 : 0 ≤ (x6_1 : Int) := aD
       have q7 : x6_1 < (a0.size : Int) := aD
       have hx7 := bt_at a0 x6_1
       replace p7 := eq_true p7
       replace q7 := eq_true q7
       go_wp2
       repeat (go_quiet (fail); try go_wp2)
       go_roundg kj1
       case measure => have := HK1.out; have := HJ1.out; omega
       case rel => exact ⟨(x5_1), (wrap64 (x6_1 + 1)), aR, aR, H', ⟨by have := HK1.out; have := HJ1.out; omega⟩, by repeat (first | exact Drawn0.refl _ | apply Drawn0.step)⟩
      rw [if_pos c8] at H
      have c8b0 : ((bt a0 x6_1) == 58) = true := beq_iff_eq.mpr c8
      have c8b1 : ((bt a0 x6_1) != 58) = false := bne_eq_false_iff_eq.mpr c8
      clear c8
      have H' := Aside0.mk H
      clear H
      have p7 : 0 ≤ (x6_1 : Int) := aD
      have q7 : x6_1 < (a0.size : Int) := aD
      have hx7 := bt_at a0 x6_1
      replace p7 := eq_true p7
      replace q7 := eq_true q7
      go_wp2
      repeat (go_quiet (fail); try go_wp2)
      go_roundg kj1
      case measure => have := HK1.out; have := HJ1.out; omega
      case rel => exact ⟨(x6_1), (wrap64 (x6_1 + 1)), aR, aR, H', ⟨by have := HK1.out; have := HJ1.out; omega⟩, by repeat (first | exact Drawn0.refl _ | apply Drawn0.step)⟩
     replace c4 := Bool.eq_false_iff.mpr c4
     subst c4
     have H1 : (if x5_1 < 0 then ((spec_NameOk.f kj1 a0).bind fun t188 => (if t188 = true then (some ((⟨#[]⟩ : ByteArray), a0, true)) else (some ((⟨#[]⟩ : ByteArray), (⟨#[]⟩ : ByteArray), false)))) else (if 0 ≤ x5_1 then (if x5_1 ≤ (a0.size : Int) then ((spec_NameOk.f kj1 (a0.extract 0 (x5_1 : Int).toNat)).bind fun t189 => (if t189 = true then (if 0 ≤ (wrap64 (x5_1 + 1)) then (if (wrap64 (x5_1 + 1)) ≤ (a0.size : Int) then ((spec_NameOk.f kj1 (a0.extract ((wrap64 (x5_1 + 1)) : Int).toNat a0.size)).bind fun t190 => (if t190 = true then (some (a0.extract 0 (x5_1 : Int).toNat, a0.extract ((wrap64 (x5_1 + 1)) : Int).toNat a0.size, true)) else (some ((⟨#[]⟩ : ByteArray), (⟨#[]⟩ : ByteArray), false)))) else (none)) else (none)) else (some ((⟨#[]⟩ : ByteArray), (⟨#[]⟩ : ByteArray), false)))) else (none)) else (none))) = some (r1, r2, r3) := by rw [if_neg (show ¬ (false = true) by decide)] at H; exact H
     clear H
     have H := H1
     clear H1
     by_cases c9 : x5_1 < 0
     ·rw [if_pos c9] at H
      have c9b0 : decide (x5_1 < 0) = true := decide_eq_true c9
      clear c9
      replace H := Option.bind_eq_some_iff.mp H
      obtain ⟨t188, A100, H⟩ := H
      replace H : (if t188 = true then (some ((⟨#[]⟩ : ByteArray), a0, true)) else (some ((⟨#[]⟩ : ByteArray), (⟨#[]⟩ : ByteArray), false))) = some (r1, r2, r3) := H
      have A10 := Aside0.mk A100
      clear A100
      by_cases c11 : t188 = true
      ·subst c11
       have H1 : (some ((⟨#[]⟩ : ByteArray), a0, true)) = some (r1, r2, r3) := by rw [if_pos rfl] at H; exact H
       clear H
       have H := H1
       clear H1
       simp only [Option.some.injEq, Prod.mk.injEq] at H
       obtain ⟨rfl, rfl, rfl⟩ := H
       go_wp2_with (first | (go_at_call 92; (with_reducible refine (spec_NameOk.calls kj1 a0 true _ A10.out).mono ?_); rintro e w' ⟨rfl, ⟨nd, rfl⟩⟩; (try first | exact aZ1 | exact aZ2)))
       repeat (go_quiet (first | (go_at_call 92; (with_reducible refine (spec_NameOk.calls kj1 a0 true _ A10.out).mono ?_); rintro e w' ⟨rfl, ⟨nd, rfl⟩⟩; (try first | exact aZ1 | exact aZ2))); try go_wp2_with (first | (go_at_call 92; (with_reducible refine (spec_NameOk.calls kj1 a0 true _ A10.out).mono ?_); rintro e w' ⟨rfl, ⟨nd, rfl⟩⟩; (try first | exact aZ1 | exact aZ2))))
       go_ret3
       exact ⟨by first | rfl | (simp; done) | (simp [*]; done), by repeat (first | exact Drawn0.refl _ | apply Drawn0.step)⟩
      replace c11 := Bool.eq_false_iff.mpr c11
      subst c11
      have H1 : (some ((⟨#[]⟩ : ByteArray), (⟨#[]⟩ : ByteArray), false)) = some (r1, r2, r3) := by rw [if_neg (show ¬ (false = true) by decide)] at H; exact H
      clear H
      have H := H1
      clear H1
      simp only [Option.some.injEq, Prod.mk.injEq] at H
      obtain ⟨rfl, rfl, rfl⟩ := H
      go_wp2_with (first | (go_at_call 92; (with_reducible refine (spec_NameOk.calls kj1 a0 false _ A10.out).mono ?_); rintro e w' ⟨rfl, ⟨nd, rfl⟩⟩; (try first | exact aZ1 | exact aZ2)))
      repeat (go_quiet (first | (go_at_call 92; (with_reducible refine (spec_NameOk.calls kj1 a0 false _ A10.out).mono ?_); rintro e w' ⟨rfl, ⟨nd, rfl⟩⟩; (try first | exact aZ1 | exact aZ2))); try go_wp2_with (first | (go_at_call 92; (with_reducible refine (spec_NameOk.calls kj1 a0 false _ A10.out).mono ?_); rintro e w' ⟨rfl, ⟨nd, rfl⟩⟩; (try first | exact aZ1 | exact aZ2))))
      go_ret3
      exact ⟨by first | rfl | (simp; done) | (simp [*]; done), by repeat (first | exact Drawn0.refl _ | apply Drawn0.step)⟩
     rw [if_neg c9] at H
     have c9b0 : decide (x5_1 < 0) = false := decide_eq_false c9
     clear c9
     by_cases c12 : 0 ≤ x5_1
     rotate_left
     ·rw [if_neg c12] at H
      exact absurd H (by simp)
     rw [if_pos c12] at H
     have c12b0 := eq_true c12
     have c12b1 : decide (0 ≤ x5_1) = true := decide_eq_true c12
     clear c12
     by_cases c13 : x5_1 ≤ (a0.size : Int)
     rotate_left
     ·rw [if_neg c13] at H
      exact absurd H (by simp)
     rw [if_pos c13] at H
     have c13b0 := eq_true c13
     have c13b1 : decide (x5_1 ≤ (a0.size : Int)) = true := decide_eq_true c13
     clear c13
     replace H := Option.bind_eq_some_iff.mp H
     obtain ⟨t189, A140, H⟩ := H
     replace H : (if t189 = true then (if 0 ≤ (wrap64 (x5_1 + 1)) then (if (wrap64 (x5_1 + 1)) ≤ (a0.size : Int) then ((spec_NameOk.f kj1 (a0.extract ((wrap64 (x5_1 + 1)) : Int).toNat a0.size)).bind fun t190 => (if t190 = true then (some (a0.extract 0 (x5_1 : Int).toNat, a0.extract ((wrap64 (x5_1 + 1)) : Int).toNat a0.size, true)) else (some ((⟨#[]⟩ : ByteArray), (⟨#[]⟩ : ByteArray), false)))) else (none)) else (none)) else (some ((⟨#[]⟩ : ByteArray), (⟨#[]⟩ : ByteArray), false))) = some (r1, r2, r3) := H
     have A14 := Aside0.mk A140
     clear A140
     by_cases c15 : t189 = true
     rotate_left
     ·replace c15 := Bool.eq_false_iff.mpr c15
      subst c15
      have H1 : (some ((⟨#[]⟩ : ByteArray), (⟨#[]⟩ : ByteArray), false)) = some (r1, r2, r3) := by rw [if_neg (show ¬ (false = true) by decide)] at H; exact H
      clear H
      have H := H1
      clear H1
      simp only [Option.some.injEq, Prod.mk.injEq] at H
      obtain ⟨rfl, rfl, rfl⟩ := H
      go_wp2_with (first | (go_at_call 92; (with_reducible refine (spec_NameOk.calls kj1 (a0.extract 0 (x5_1 : Int).toNat) false _ A14.out).mono ?_); rintro e w' ⟨rfl, ⟨nd, rfl⟩⟩; (try first | exact aZ1 | exact aZ2)))
      repeat (go_quiet (first | (go_at_call 92; (with_reducible refine (spec_NameOk.calls kj1 (a0.extract 0 (x5_1 : Int).toNat) false _ A14.out).mono ?_); rintro e w' ⟨rfl, ⟨nd, rfl⟩⟩; (try first | exact aZ1 | exact aZ2))); try go_wp2_with (first | (go_at_call 92; (with_reducible refine (spec_NameOk.calls kj1 (a0.extract 0 (x5_1 : Int).toNat) false _ A14.out).mono ?_); rintro e w' ⟨rfl, ⟨nd, rfl⟩⟩; (try first | exact aZ1 | exact aZ2))))
      go_ret3
      exact ⟨by first | rfl | (simp; done) | (simp [*]; done), by repeat (first | exact Drawn0.refl _ | apply Drawn0.step)⟩
     subst c15
     have H1 : (if 0 ≤ (wrap64 (x5_1 + 1)) then (if (wrap64 (x5_1 + 1)) ≤ (a0.size : Int) then ((spec_NameOk.f kj1 (a0.extract ((wrap64 (x5_1 + 1)) : Int).toNat a0.size)).bind fun t190 => (if t190 = true then (some (a0.extract 0 (x5_1 : Int).toNat, a0.extract ((wrap64 (x5_1 + 1)) : Int).toNat a0.size, true)) else (some ((⟨#[]⟩ : ByteArray), (⟨#[]⟩ : ByteArray), false)))) else (none)) else (none)) = some (r1, r2, r3) := by rw [if_pos rfl] at H; exact H
     clear H
     have H := H1
     clear H1
     obtain ⟨ji16, hji16⟩ : ∃ j_ : Int, (wrap64 (x5_1 + 1)) = j_ := ⟨_, rfl⟩
     replace H : (if 0 ≤ (ji16) then (if (ji16) ≤ (a0.size : Int) then ((spec_NameOk.f kj1 (a0.extract ((ji16) : Int).toNat a0.size)).bind fun t190 => (if t190 = true then (some (a0.extract 0 (x5_1 : Int).toNat, a0.extract ((ji16) : Int).toNat a0.size, true)) else (some ((⟨#[]⟩ : ByteArray), (⟨#[]⟩ : ByteArray), false)))) else (none)) else (none)) = some (r1, r2, r3) := by first | (rw [hji16] at H; exact H) | (simp only [hji16] at H ⊢; exact H)
     (try rw [hji16] at A14)
     have hji16w : (IntKind.i64.wrap (x5_1 + 1)) = ji16 := (i64_w _).trans hji16
     by_cases c17 : 0 ≤ (ji16)
     rotate_left
     ·rw [if_neg c17] at H
      exact absurd H (by simp)
     rw [if_pos c17] at H
     have c17b0 := eq_true c17
     have c17b1 : decide (0 ≤ (ji16)) = true := decide_eq_true c17
     clear c17
     by_cases c18 : (ji16) ≤ (a0.size : Int)
     rotate_left
     ·rw [if_neg c18] at H
      exact absurd H (by simp)
     rw [if_pos c18] at H
     have c18b0 := eq_true c18
     have c18b1 : decide ((ji16) ≤ (a0.size : Int)) = true := decide_eq_true c18
     clear c18
     replace H := Option.bind_eq_some_iff.mp H
     obtain ⟨t190, A190, H⟩ := H
     replace H : (if t190 = true then (some (a0.extract 0 (x5_1 : Int).toNat, a0.extract ((ji16) : Int).toNat a0.size, true)) else (some ((⟨#[]⟩ : ByteArray), (⟨#[]⟩ : ByteArray), false))) = some (r1, r2, r3) := H
     have A19 := Aside0.mk A190
     clear A190
     by_cases c20 : t190 = true
     rotate_left
     ·replace c20 := Bool.eq_false_iff.mpr c20
      subst c20
      have H1 : (some ((⟨#[]⟩ : ByteArray), (⟨#[]⟩ : ByteArray), false)) = some (r1, r2, r3) := by rw [if_neg (show ¬ (false = true) by decide)] at H; exact H
      clear H
      have H := H1
      clear H1
      simp only [Option.some.injEq, Prod.mk.injEq] at H
      obtain ⟨rfl, rfl, rfl⟩ := H
      go_wp2_with (first | (go_at_call 92; (with_reducible refine (spec_NameOk.calls kj1 (a0.extract 0 (x5_1 : Int).toNat) true _ A14.out).mono ?_); rintro e w' ⟨rfl, ⟨nd, rfl⟩⟩; (try first | exact aZ1 | exact aZ2)) | (go_at_call 92; (with_reducible refine (spec_NameOk.calls kj1 (a0.extract ((ji16) : Int).toNat a0.size) false _ A19.out).mono ?_); rintro e w' ⟨rfl, ⟨nd, rfl⟩⟩; (try first | exact aZ1 | exact aZ2)))
      repeat (go_quiet (first | (go_at_call 92; (with_reducible refine (spec_NameOk.calls kj1 (a0.extract 0 (x5_1 : Int).toNat) true _ A14.out).mono ?_); rintro e w' ⟨rfl, ⟨nd, rfl⟩⟩; (try first | exact aZ1 | exact aZ2)) | (go_at_call 92; (with_reducible refine (spec_NameOk.calls kj1 (a0.extract ((ji16) : Int).toNat a0.size) false _ A19.out).mono ?_); rintro e w' ⟨rfl, ⟨nd, rfl⟩⟩; (try first | exact aZ1 | exact aZ2))); try go_wp2_with (first | (go_at_call 92; (with_reducible refine (spec_NameOk.calls kj1 (a0.extract 0 (x5_1 : Int).toNat) true _ A14.out).mono ?_); rintro e w' ⟨rfl, ⟨nd, rfl⟩⟩; (try first | exact aZ1 | exact aZ2)) | (go_at_call 92; (with_reducible refine (spec_NameOk.calls kj1 (a0.extract ((ji16) : Int).toNat a0.size) false _ A19.out).mono ?_); rintro e w' ⟨rfl, ⟨nd, rfl⟩⟩; (try first | exact aZ1 | exact aZ2))))
      go_ret3
      exact ⟨by first | rfl | (simp; done) | (simp only [← hji16] <;> (first | rfl | simp)) | (simp [*]; done), by repeat (first | exact Drawn0.refl _ | apply Drawn0.step)⟩
     subst c20
     have H1 : (some (a0.extract 0 (x5_1 : Int).toNat, a0.extract ((ji16) : Int).toNat a0.size, true)) = some (r1, r2, r3) := by rw [if_pos rfl] at H; exact H
     clear H
     have H := H1
     clear H1
     have c21b0 := eq_true (aD : 0 ≤ x5_1)
     have c22b0 := eq_true (aD : x5_1 ≤ (a0.size : Int))
     have c23b0 := eq_true (aD : 0 ≤ (ji16))
     have c24b0 := eq_true (aD : (ji16) ≤ (a0.size : Int))
     simp only [Option.some.injEq, Prod.mk.injEq] at H
     obtain ⟨rfl, rfl, rfl⟩ := H
     go_wp2_with (first | (go_at_call 92; (with_reducible refine (spec_NameOk.calls kj1 (a0.extract 0 (x5_1 : Int).toNat) true _ A14.out).mono ?_); rintro e w' ⟨rfl, ⟨nd, rfl⟩⟩; (try first | exact aZ1 | exact aZ2)) | (go_at_call 92; (with_reducible refine (spec_NameOk.calls kj1 (a0.extract ((ji16) : Int).toNat a0.size) true _ A19.out).mono ?_); rintro e w' ⟨rfl, ⟨nd, rfl⟩⟩; (try first | exact aZ1 | exact aZ2)))
     repeat (go_quiet (first | (go_at_call 92; (with_reducible refine (spec_NameOk.calls kj1 (a0.extract 0 (x5_1 : Int).toNat) true _ A14.out).mono ?_); rintro e w' ⟨rfl, ⟨nd, rfl⟩⟩; (try first | exact aZ1 | exact aZ2)) | (go_at_call 92; (with_reducible refine (spec_NameOk.calls kj1 (a0.extract ((ji16) : Int).toNat a0.size) true _ A19.out).mono ?_); rintro e w' ⟨rfl, ⟨nd, rfl⟩⟩; (try first | exact aZ1 | exact aZ2))); try go_wp2_with (first | (go_at_call 92; (with_reducible refine (spec_NameOk.calls kj1 (a0.extract 0 (x5_1 : Int).toNat) true _ A14.out).mono ?_); rintro e w' ⟨rfl, ⟨nd, rfl⟩⟩; (try first | exact aZ1 | exact aZ2)) | (go_at_call 92; (with_reducible refine (spec_NameOk.calls kj1 (a0.extract ((ji16) : Int).toNat a0.size) true _ A19.out).mono ?_); rintro e w' ⟨rfl, ⟨nd, rfl⟩⟩; (try first | exact aZ1 | exact aZ2))))
     go_ret3
     exact ⟨by first | rfl | (simp; done) | (simp only [← hji16] <;> (first | rfl | simp)) | (simp [*]; done), by repeat (first | exact Drawn0.refl _ | apply Drawn0.step)⟩
def spec_l1Qual.f (k : Nat) (a0 : ByteArray) : Option (Bool) := (spec_Split.f k a0).bind fun bt191 => (some bt191.2.2)
set_option maxHeartbeats 8000000 in
set_option maxRecDepth 100000 in
theorem spec_l1Qual.calls (k : Nat) (a0 : ByteArray) (r : Bool) (w : World) (h : spec_l1Qual.f k a0 = some r) :
  Calls Tryd.prog 51 #[.string a0] w fun e w' => e = .returned (.bool r) ∧ Drawn0 w w' := by
 have H : ((spec_Split.f k a0).bind fun bt191 => (some bt191.2.2)) = some r := h
 clear h
 replace H := Option.bind_eq_some_iff.mp H
 obtain ⟨⟨t191, t192, t193⟩, A20, H⟩ := H
 replace H : (some t193) = some r := H
 have A2 := Aside0.mk A20
 clear A20
 obtain rfl := Option.some.inj H
 go_enter Tryd.func51, Tryd.ntmps51
 go_wp2_with (first | ((with_reducible refine gate_callee (f := 70) rfl ?_); refine goesL_ (some 8) rfl rfl Tryd.func70 (by kernel_rfl) rfl #[.string a0] rfl aG ?_; (with_reducible refine (spec_Split.calls k a0 t191 t192 t193 _ A2.out).mono ?_); rintro e w' ⟨rfl, ⟨nd, rfl⟩⟩; refine ⟨_, rfl, ?_⟩))
 go_ret
 exact ⟨by first | rfl | (simp; done) | (simp [*]; done), by repeat (first | exact Drawn0.refl _ | apply Drawn0.step)⟩
mutual
def spec_l2Attrs.l0 : Nat → List (S76) → Int → Option (Bool)
 | 0, _, _ => none
 | k + 1, x0, x3 => if x3 < (x0.length : Int) then (if 0 ≤ x3 then ((spec_l1Qual.f k ((rd_T76 x0 x3).f0)).bind fun t195 => (if t195 = true then ((spec_l1Text.f k ((rd_T76 x0 x3).f1)).bind fun t197 => (spec_l2Attrs.j1 k x0 x3 (!t197))) else (spec_l2Attrs.j1 k x0 x3 true))) else (none)) else (some true)
def spec_l2Attrs.j1 : Nat → List (S76) → Int → Bool → Option (Bool)
 | 0, _, _, _ => none
 | k + 1, x0, x3, x29 => if x29 = true then (some false) else (spec_l2Attrs.l1 k x0 x3 0)
def spec_l2Attrs.l1 : Nat → List (S76) → Int → Int → Option (Bool)
 | 0, _, _, _ => none
 | k + 1, x0, x3, x4 => if x4 < x3 then (if 0 ≤ x4 then (if x4 < (x0.length : Int) then (if 0 ≤ x3 then (if x3 < (x0.length : Int) then (if ((rd_T76 x0 x4).f0).toList = ((rd_T76 x0 x3).f0).toList then (some false) else (spec_l2Attrs.l1 k x0 x3 (wrap64 (x4 + 1)))) else (none)) else (none)) else (none)) else (none)) else (spec_l2Attrs.l0 k x0 (wrap64 (x3 + 1)))
end
def spec_l2Attrs.f (k : Nat) (l0 : List (S76)) : Option (Bool) := if (l0.length : Int) > 10 then (some false) else (spec_l2Attrs.l0 k l0 0)
set_option maxHeartbeats 8000000 in
set_option maxRecDepth 100000 in
theorem spec_l2Attrs.calls (k : Nat) (A0 : Option Addr) (c0 : Nat) (l0 : List (S76)) (r : Bool) (w : World) (hr0 : Kd.C k76 w A0 l0.length l0) (hc0 : l0.length ≤ c0) (h : spec_l2Attrs.f k l0 = some r) :
  Calls Tryd.prog 52 #[.slice A0 l0.length c0] w fun e w' => e = .returned (.bool r) ∧ Below w.heap.size w w' := by
 have HR0 := Aside0.mk hr0
 have HC0 := Aside0.mk hc0
 clear hr0 hc0
 have HB := Aside0.mk (Below.refl w.heap.size w)
 have H : (if (l0.length : Int) > 10 then (some false) else (spec_l2Attrs.l0 k l0 0)) = some r := h
 clear h
 by_cases c2 : (l0.length : Int) > 10
 ·rw [if_pos c2] at H
  have c2b0 : decide (10 < (l0.length : Int)) = true := decide_eq_true c2
  have c2b1 : decide (10 < l0.length) = true := decide_eq_true (by omega)
  clear c2
  obtain rfl := Option.some.inj H
  go_enter Tryd.func52, Tryd.ntmps52
  go_wp2
  repeat (go_quiet (fail); try go_wp2)
  go_ret
  exact ⟨aS, aB⟩
 rw [if_neg c2] at H
 have c2b0 : decide (10 < (l0.length : Int)) = false := decide_eq_false c2
 have c2b1 : decide (10 < l0.length) = false := decide_eq_false (by omega)
 clear c2
 have H' := Aside0.mk H
 clear H
 go_enter Tryd.func52, Tryd.ntmps52
 go_wp2
 repeat (go_quiet (fail); try go_wp2)
 go_loopg [3] k (fun kq v3 w' => ∃ (x3_1 : Int), v3 = .int .i64 x3_1 ∧ Aside0 (spec_l2Attrs.l0 kq l0 x3_1 = some r) ∧ Aside0 (kq ≤ k) ∧ Aside0 (Below w.heap.size w w'))
 case atStart => exact ⟨(0), aR, H', ⟨Nat.le_refl _⟩, ⟨aB⟩⟩
 case round =>
  clear H'
  try clear c2
  try clear c2b0
  try clear c2b1
  try clear p2
  obtain ⟨x3_1, rfl, HA, HK1, HB⟩ := hrel
  cases gk with
  | zero => exact absurd HA.out (by simp [spec_l2Attrs.l0])
  | succ k1 =>
   have H := HA.out
   clear HA
   simp only [spec_l2Attrs.l0] at H
   by_cases c3 : x3_1 < (l0.length : Int)
   rotate_left
   ·rw [if_neg c3] at H
    have c3b0 : decide (x3_1 < (l0.length : Int)) = false := decide_eq_false c3
    clear c3
    obtain rfl := Option.some.inj H
    go_wp2
    repeat (go_quiet (fail); try go_wp2)
    go_ret
    exact ⟨aS, aB⟩
   rw [if_pos c3] at H
   have c3b0 : decide (x3_1 < (l0.length : Int)) = true := decide_eq_true c3
   clear c3
   have HC4 := Aside0.mk H
   clear H
   go_upto_region 6 with (fail)
   repeat (go_quiet (fail); go_upto_region 6 with (fail))
   go_cut [29] (fun v29 wc => ∃ (kq : Nat) (x29_3 : Bool), v29 = .bool x29_3 ∧ Aside0 (spec_l2Attrs.j1 kq l0 x3_1 x29_3 = some r) ∧ Aside0 (kq ≤ k1) ∧ Aside0 (Below w.heap.size w wc))
   case first =>
    have H := HC4.out
    clear HC4
    by_cases c5 : 0 ≤ x3_1
    rotate_left
    ·rw [if_neg c5] at H
     exact absurd H (by simp)
    rw [if_pos c5] at H
    have c5b0 : decide (0 ≤ x3_1) = true := decide_eq_true c5
    clear c5
    (first | rw [c5b0] | (simp only [i64_w, i32_w]; rw [c5b0]) | skip)
    replace H := Option.bind_eq_some_iff.mp H
    obtain ⟨t195, A60, H⟩ := H
    replace H : (if t195 = true then ((spec_l1Text.f k1 ((rd_T76 l0 x3_1).f1)).bind fun t197 => (spec_l2Attrs.j1 k1 l0 x3_1 (!t197))) else (spec_l2Attrs.j1 k1 l0 x3_1 true)) = some r := H
    have A6 := Aside0.mk A60
    clear A60
    by_cases c7 : t195 = true
    rotate_left
    ·replace c7 := Bool.eq_false_iff.mpr c7
     subst c7
     have H1 : (spec_l2Attrs.j1 k1 l0 x3_1 true) = some r := by rw [if_neg (show ¬ (false = true) by decide)] at H; exact H
     clear H
     have H := H1
     clear H1
     have H' := Aside0.mk H
     clear H
     have p194 : 0 ≤ (x3_1 : Int) := aD
     have q194 : x3_1 < (l0.length : Int) := aD
     obtain ⟨ad194, e194, hx194_0, hx194_1⟩ := at_T76 HR0.out x3_1 p194 q194
     cases e194
     replace hx194_0 := (HB.out.cell (World.block_lt_of_cell? w _ hx194_0)).trans hx194_0
     replace hx194_1 := (HB.out.cell (World.block_lt_of_cell? w _ hx194_1)).trans hx194_1
     replace p194 := eq_true p194
     replace q194 := eq_true q194
     go_wp2_with (first | (go_at_call 51; (with_reducible refine (spec_l1Qual.calls k1 ((rd_T76 l0 x3_1).f0) false _ A6.out).mono ?_); rintro e w' ⟨rfl, ⟨nd, rfl⟩⟩; (try first | exact aZ1 | exact aZ2)))
     repeat (go_quiet (first | (go_at_call 51; (with_reducible refine (spec_l1Qual.calls k1 ((rd_T76 l0 x3_1).f0) false _ A6.out).mono ?_); rintro e w' ⟨rfl, ⟨nd, rfl⟩⟩; (try first | exact aZ1 | exact aZ2))); try go_wp2_with (first | (go_at_call 51; (with_reducible refine (spec_l1Qual.calls k1 ((rd_T76 l0 x3_1).f0) false _ A6.out).mono ?_); rintro e w' ⟨rfl, ⟨nd, rfl⟩⟩; (try first | exact aZ1 | exact aZ2))))
     go_meet
     case rel => exact ⟨_, (true), aR, H', ⟨by have := HK1.out; first | omega | exact Nat.le_refl _⟩, ⟨aB⟩⟩
    subst c7
    have H1 : ((spec_l1Text.f k1 ((rd_T76 l0 x3_1).f1)).bind fun t197 => (spec_l2Attrs.j1 k1 l0 x3_1 (!t197))) = some r := by rw [if_pos rfl] at H; exact H
    clear H
    have H := H1
    clear H1
    replace H := Option.bind_eq_some_iff.mp H
    obtain ⟨t197, A80, H⟩ := H
    replace H : (spec_l2Attrs.j1 k1 l0 x3_1 (!t197)) = some r := H
    have A8 := Aside0.mk A80
    clear A80
    have H' := Aside0.mk H
    clear H
    have p194 : 0 ≤ (x3_1 : Int) := aD
    have q194 : x3_1 < (l0.length : Int) := aD
    obtain ⟨ad194, e194, hx194_0, hx194_1⟩ := at_T76 HR0.out x3_1 p194 q194
    cases e194
    replace hx194_0 := (HB.out.cell (World.block_lt_of_cell? w _ hx194_0)).trans hx194_0
    replace hx194_1 := (HB.out.cell (World.block_lt_of_cell? w _ hx194_1)).trans hx194_1
    replace p194 := eq_true p194
    replace q194 := eq_true q194
    go_wp2_with (first | (go_at_call 51; (with_reducible refine (spec_l1Qual.calls k1 ((rd_T76 l0 x3_1).f0) true _ A6.out).mono ?_); rintro e w' ⟨rfl, ⟨nd, rfl⟩⟩; (try first | exact aZ1 | exact aZ2); have p196 : 0 ≤ (x3_1 : Int) := aD; have q196 : x3_1 < (l0.length : Int) := aD; obtain ⟨ad196, e196, hx196_0, hx196_1⟩ := at_T76 HR0.out x3_1 p196 q196; obtain rfl : ad194 = ad196 := (by injection e196); replace hx196_0 := (HB.out.cell (World.block_lt_of_cell? w _ hx196_0)).trans hx196_0; replace hx196_1 := (HB.out.cell (World.block_lt_of_cell? w _ hx196_1)).trans hx196_1; replace p196 := eq_true p196; replace q196 := eq_true q196) | (go_at_call 37; (with_reducible refine (spec_l1Text.calls k1 ((rd_T76 l0 x3_1).f1) t197 _ A8.out).mono ?_); rintro e w9 ⟨rfl, hb⟩; have n0_ := Aside0.mk (below_step aB hb); clear HB; have HB := n0_; clear n0_; (try clear hb); (try clear hb2); (try clear hk); (try clear hi)))
    repeat (go_quiet (first | (go_at_call 51; (with_reducible refine (spec_l1Qual.calls k1 ((rd_T76 l0 x3_1).f0) true _ A6.out).mono ?_); rintro e w' ⟨rfl, ⟨nd, rfl⟩⟩; (try first | exact aZ1 | exact aZ2); have p196 : 0 ≤ (x3_1 : Int) := aD; have q196 : x3_1 < (l0.length : Int) := aD; obtain ⟨ad196, e196, hx196_0, hx196_1⟩ := at_T76 HR0.out x3_1 p196 q196; obtain rfl : ad194 = ad196 := (by injection e196); replace hx196_0 := (HB.out.cell (World.block_lt_of_cell? w _ hx196_0)).trans hx196_0; replace hx196_1 := (HB.out.cell (World.block_lt_of_cell? w _ hx196_1)).trans hx196_1; replace p196 := eq_true p196; replace q196 := eq_true q196) | (go_at_call 37; (with_reducible refine (spec_l1Text.calls k1 ((rd_T76 l0 x3_1).f1) t197 _ A8.out).mono ?_); rintro e w9 ⟨rfl, hb⟩; have n0_ := Aside0.mk (below_step aB hb); clear HB; have HB := n0_; clear n0_; (try clear hb); (try clear hb2); (try clear hk); (try clear hi))); try go_wp2_with (first | (go_at_call 51; (with_reducible refine (spec_l1Qual.calls k1 ((rd_T76 l0 x3_1).f0) true _ A6.out).mono ?_); rintro e w' ⟨rfl, ⟨nd, rfl⟩⟩; (try first | exact aZ1 | exact aZ2); have p196 : 0 ≤ (x3_1 : Int) := aD; have q196 : x3_1 < (l0.length : Int) := aD; obtain ⟨ad196, e196, hx196_0, hx196_1⟩ := at_T76 HR0.out x3_1 p196 q196; obtain rfl : ad194 = ad196 := (by injection e196); replace hx196_0 := (HB.out.cell (World.block_lt_of_cell? w _ hx196_0)).trans hx196_0; replace hx196_1 := (HB.out.cell (World.block_lt_of_cell? w _ hx196_1)).trans hx196_1; replace p196 := eq_true p196; replace q196 := eq_true q196) | (go_at_call 37; (with_reducible refine (spec_l1Text.calls k1 ((rd_T76 l0 x3_1).f1) t197 _ A8.out).mono ?_); rintro e w9 ⟨rfl, hb⟩; have n0_ := Aside0.mk (below_step aB hb); clear HB; have HB := n0_; clear n0_; (try clear hb); (try clear hb2); (try clear hk); (try clear hi))))
    go_meet
    case rel => exact ⟨_, (!t197), aR, H', ⟨by have := HK1.out; first | omega | exact Nat.le_refl _⟩, ⟨aB⟩⟩
   case rest =>
    clear HC4
    try clear p1
    try clear q1
    try clear hx1
    try clear c2
    try clear c2b0
    try clear c2b1
    try clear p2
    try clear c3
    try clear c3b0
    try clear c5
    try clear c5b0
    try clear c7
    try clear hx194_0
    try clear hx194_1
    try clear hx196_0
    try clear hx196_1
    try clear p194
    try clear p196
    try clear p2
    try clear q194
    try clear q196
    obtain ⟨kq, x29_3, rfl, HA, HJ3, HB⟩ := hcut
    cases kq with
    | zero => exact absurd HA.out (by simp [spec_l2Attrs.j1])
    | succ kj3 =>
     have H := HA.out
     clear HA
     simp only [spec_l2Attrs.j1] at H
     by_cases c10 : x29_3 = true
     ·subst c10
      have H1 : (some false) = some r := by rw [if_pos rfl] at H; exact H
      clear H
      have H := H1
      clear H1
      obtain rfl := Option.some.inj H
      go_wp2
      repeat (go_quiet (fail); try go_wp2)
      go_ret
      exact ⟨aS, aB⟩
     replace c10 := Bool.eq_false_iff.mpr c10
     subst c10
     have H1 : (spec_l2Attrs.l1 kj3 l0 x3_1 0) = some r := by rw [if_neg (show ¬ (false = true) by decide)] at H; exact H
     clear H
     have H := H1
     clear H1
     have H' := Aside0.mk H
     clear H
     go_wp2
     repeat (go_quiet (fail); try go_wp2)
     go_loopg [4] kj3 (fun kq v4 w' => ∃ (x4_3 : Int), v4 = .int .i64 x4_3 ∧ Aside0 (spec_l2Attrs.l1 kq l0 x3_1 x4_3 = some r) ∧ Aside0 (kq ≤ kj3) ∧ Aside0 (Below w.heap.size w w'))
     case atStart => exact ⟨(0), aR, H', ⟨Nat.le_refl _⟩, ⟨aB⟩⟩
     case round =>
      clear H'
      try clear c1
      try clear p1
      try clear q1
      try clear hx1
      try clear c2
      try clear c2b0
      try clear c2b1
      try clear p2
      try clear c3
      try clear c3b0
      try clear c5
      try clear c5b0
      try clear c7
      try clear c10
      try clear hx194_0
      try clear hx194_1
      try clear hx196_0
      try clear hx196_1
      try clear p1
      try clear p194
      try clear p196
      try clear p2
      try clear q1
      try clear q194
      try clear q196
      obtain ⟨x4_3, rfl, HA, HK3, HB⟩ := hrel
      cases gk with
      | zero => exact absurd HA.out (by simp [spec_l2Attrs.l1])
      | succ k3 =>
       have H := HA.out
       clear HA
       simp only [spec_l2Attrs.l1] at H
       by_cases c11 : x4_3 < x3_1
       rotate_left
       ·rw [if_neg c11] at H
        have c11b0 : decide (x4_3 < x3_1) = false := decide_eq_false c11
        clear c11
        have H' := Aside0.mk H
        clear H
        go_wp2
        repeat (go_quiet (fail); try go_wp2)
        go_roundg k3
        case measure => have := HK1.out; have := HJ3.out; have := HK3.out; omega
        case rel => exact ⟨(wrap64 (x3_1 + 1)), aR, H', ⟨by have := HK1.out; have := HJ3.out; have := HK3.out; omega⟩, ⟨aB⟩⟩
       rw [if_pos c11] at H
       have c11b0 : decide (x4_3 < x3_1) = true := decide_eq_true c11
       clear c11
       by_cases c12 : 0 ≤ x4_3
       rotate_left
       ·rw [if_neg c12] at H
        exact absurd H (by simp)
       rw [if_pos c12] at H
       have c12b0 : decide (0 ≤ x4_3) = true := decide_eq_true c12
       clear c12
       by_cases c13 : x4_3 < (l0.length : Int)
       rotate_left
       ·rw [if_neg c13] at H
        exact absurd H (by simp)
       rw [if_pos c13] at H
       have c13b0 : decide (x4_3 < (l0.length : Int)) = true := decide_eq_true c13
       clear c13
       by_cases c14 : 0 ≤ x3_1
       rotate_left
       ·rw [if_neg c14] at H
        exact absurd H (by simp)
       rw [if_pos c14] at H
       have c14b0 : decide (0 ≤ x3_1) = true := decide_eq_true c14
       clear c14
       by_cases c15 : x3_1 < (l0.length : Int)
       rotate_left
       ·rw [if_neg c15] at H
        exact absurd H (by simp)
       rw [if_pos c15] at H
       have c15b0 : decide (x3_1 < (l0.length : Int)) = true := decide_eq_true c15
       clear c15
       by_cases c16 : ((rd_T76 l0 x4_3).f0).toList = ((rd_T76 l0 x3_1).f0).toList
       ·rw [if_pos c16] at H
        have c16b0 : (((rd_T76 l0 x4_3).f0).toList == ((rd_T76 l0 x3_1).f0).toList) = true := beq_iff_eq.mpr c16
        have c16b1 : (((rd_T76 l0 x4_3).f0).toList != ((rd_T76 l0 x3_1).f0).toList) = false := bne_eq_false_iff_eq.mpr c16
        clear c16
        obtain rfl := Option.some.inj H
        have p198 : 0 ≤ (x4_3 : Int) := aD
        have q198 : x4_3 < (l0.length : Int) := aD
        obtain ⟨ad198, e198, hx198_0, hx198_1⟩ := at_T76 HR0.out x4_3 p198 q198
        cases e198
        replace hx198_0 := (HB.out.cell (World.block_lt_of_cell? w _ hx198_0)).trans hx198_0
        replace hx198_1 := (HB.out.cell (World.block_lt_of_cell? w _ hx198_1)).trans hx198_1
        replace p198 := eq_true p198
        replace q198 := eq_true q198
        have p199 : 0 ≤ (x3_1 : Int) := aD
        have q199 : x3_1 < (l0.length : Int) := aD
        obtain ⟨ad199, e199, hx199_0, hx199_1⟩ := at_T76 HR0.out x3_1 p199 q199
        obtain rfl : ad198 = ad199 := (by injection e199)
        replace hx199_0 := (HB.out.cell (World.block_lt_of_cell? w _ hx199_0)).trans hx199_0
        replace hx199_1 := (HB.out.cell (World.block_lt_of_cell? w _ hx199_1)).trans hx199_1
        replace p199 := eq_true p199
        replace q199 := eq_true q199
        go_wp2
        repeat (go_quiet (fail); try go_wp2)
        go_ret
        exact ⟨aS, aB⟩
       rw [if_neg c16] at H
       have c16b0 : (((rd_T76 l0 x4_3).f0).toList == ((rd_T76 l0 x3_1).f0).toList) = false := beq_eq_false_iff_ne.mpr c16
       have c16b1 : (((rd_T76 l0 x4_3).f0).toList != ((rd_T76 l0 x3_1).f0).toList) = true := bne_iff_ne.mpr c16
       have H' := Aside0.mk H
       clear H
       have p198 : 0 ≤ (x4_3 : Int) := aD
       have q198 : x4_3 < (l0.length : Int) := aD
       obtain ⟨ad198, e198, hx198_0, hx198_1⟩ := at_T76 HR0.out x4_3 p198 q198
       cases e198
       replace hx198_0 := (HB.out.cell (World.block_lt_of_cell? w _ hx198_0)).trans hx198_0
       replace hx198_1 := (HB.out.cell (World.block_lt_of_cell? w _ hx198_1)).trans hx198_1
       replace p198 := eq_true p198
       replace q198 := eq_true q198
       have p199 : 0 ≤ (x3_1 : Int) := aD
       have q199 : x3_1 < (l0.length : Int) := aD
       obtain ⟨ad199, e199, hx199_0, hx199_1⟩ := at_T76 HR0.out x3_1 p199 q199
       obtain rfl : ad198 = ad199 := (by injection e199)
       replace hx199_0 := (HB.out.cell (World.block_lt_of_cell? w _ hx199_0)).trans hx199_0
       replace hx199_1 := (HB.out.cell (World.block_lt_of_cell? w _ hx199_1)).trans hx199_1
       replace p199 := eq_true p199
       replace q199 := eq_true q199
       go_wp2
       repeat (go_quiet (fail); try go_wp2)
       go_roundg k3
       case measure => have := HK1.out; have := HJ3.out; have := HK3.out; omega
       case rel => exact ⟨(wrap64 (x4_3 + 1)), aR, H', ⟨by have := HK1.out; have := HJ3.out; have := HK3.out; omega⟩, ⟨aB⟩⟩
end Go.Proofs.YtbhklkpjjpkblaaDoor.PI
