-- Printed by this session's pdrive.py over the kit's printer.
import Derived.Test.YtbhklkpjjpkblaaDoorPEx0
import Derived.Test.YtbhklkpjjpkblaaDoorPEx2
namespace Go.Proofs.YtbhklkpjjpkblaaDoor.PE
open Go.RowKit Go.Proofs.YtbhklkpjjpkblaaDoorW.PrintWords Go.Proofs.YtbhklkpjjpkblaaDoorW.PrintLast Go.Proofs.YtbhklkpjjpkblaaDoorW.PrintMore Go.Proofs.YtbhklkpjjpkblaaDoorW.WordsB Go.Proofs.YtbhklkpjjpkblaaDoorW.GlM
attribute [local go_sem] max2_int min2_int max_two min_two max_three min_three max_four min_four   -- for this text's walks alone
set_option linter.unusedVariables false
set_option linter.unusedSimpArgs false

/-! ### impl_in: function 54 -/
def impl_in.f (a0 : Int) (a1 : Int) (a2 : Int) : Option (Bool) := if a1 ≤ a0 then (some (decide (a0 ≤ a2))) else (some false)
set_option maxHeartbeats 8000000 in
set_option maxRecDepth 100000 in
theorem impl_in.calls (a0 : Int) (a1 : Int) (a2 : Int) (r : Bool) (w : World) (h : impl_in.f a0 a1 a2 = some r) :
  Calls Tryd.prog 54 #[.int .i64 a0, .int .i64 a1, .int .i64 a2] w fun e w' => e = .returned (.bool r) ∧ Drawn0 w w' := by
 have H : (if a1 ≤ a0 then (some (decide (a0 ≤ a2))) else (some false)) = some r := h
 clear h
 by_cases c4 : a1 ≤ a0
 ·rw [if_pos c4] at H
  have c4b0 : decide (a1 ≤ a0) = true := decide_eq_true c4
  clear c4
  obtain rfl := Option.some.inj H
  go_enter Tryd.func54, Tryd.ntmps54
  go_wp2
  go_ret
  exact ⟨by first | rfl | (simp; done) | (simp [*]; done), by repeat (first | exact Drawn0.refl _ | apply Drawn0.step)⟩
 ·rw [if_neg c4] at H
  have c4b0 : decide (a1 ≤ a0) = false := decide_eq_false c4
  clear c4
  obtain rfl := Option.some.inj H
  go_enter Tryd.func54, Tryd.ntmps54
  go_wp2
  go_ret
  exact ⟨by first | rfl | (simp; done) | (simp [*]; done), by repeat (first | exact Drawn0.refl _ | apply Drawn0.step)⟩

/-! ### impl_CharOk: function 77 -/
def impl_CharOk.f (a0 : Int) : Option (Bool) := if a0 = 9 then (some true) else (if a0 = 10 then (some true) else (if a0 = 13 then (some true) else ((impl_in.f a0 32 55295).bind fun t123 => (if t123 = true then (some true) else ((impl_in.f a0 57344 65533).bind fun t124 => (if t124 = true then (some true) else ((impl_in.f a0 65536 1114111).bind fun t125 => (some t125))))))))
set_option maxHeartbeats 8000000 in
set_option maxRecDepth 100000 in
theorem impl_CharOk.calls (a0 : Int) (r : Bool) (w : World) (h : impl_CharOk.f a0 = some r) :
  Calls Tryd.prog 77 #[.int .i64 a0] w fun e w' => e = .returned (.bool r) ∧ Drawn0 w w' := by
 have H : (if a0 = 9 then (some true) else (if a0 = 10 then (some true) else (if a0 = 13 then (some true) else ((impl_in.f a0 32 55295).bind fun t123 => (if t123 = true then (some true) else ((impl_in.f a0 57344 65533).bind fun t124 => (if t124 = true then (some true) else ((impl_in.f a0 65536 1114111).bind fun t125 => (some t125))))))))) = some r := h
 clear h
 by_cases c2 : a0 = 9
 ·rw [if_pos c2] at H
  have c2b0 : (a0 == 9) = true := beq_iff_eq.mpr c2
  have c2b1 : (a0 != 9) = false := bne_eq_false_iff_eq.mpr c2
  clear c2
  obtain rfl := Option.some.inj H
  go_enter Tryd.func77, Tryd.ntmps77
  go_wp2
  go_ret
  exact ⟨by first | rfl | (simp; done) | (simp [*]; done), by repeat (first | exact Drawn0.refl _ | apply Drawn0.step)⟩
 ·rw [if_neg c2] at H
  have c2b0 : (a0 == 9) = false := beq_eq_false_iff_ne.mpr c2
  have c2b1 : (a0 != 9) = true := bne_iff_ne.mpr c2
  by_cases c3 : a0 = 10
  ·rw [if_pos c3] at H
   have c3b0 : (a0 == 10) = true := beq_iff_eq.mpr c3
   have c3b1 : (a0 != 10) = false := bne_eq_false_iff_eq.mpr c3
   clear c3
   obtain rfl := Option.some.inj H
   go_enter Tryd.func77, Tryd.ntmps77
   go_wp2
   go_ret
   exact ⟨by first | rfl | (simp; done) | (simp [*]; done), by repeat (first | exact Drawn0.refl _ | apply Drawn0.step)⟩
  ·rw [if_neg c3] at H
   have c3b0 : (a0 == 10) = false := beq_eq_false_iff_ne.mpr c3
   have c3b1 : (a0 != 10) = true := bne_iff_ne.mpr c3
   by_cases c4 : a0 = 13
   ·rw [if_pos c4] at H
    have c4b0 : (a0 == 13) = true := beq_iff_eq.mpr c4
    have c4b1 : (a0 != 13) = false := bne_eq_false_iff_eq.mpr c4
    clear c4
    obtain rfl := Option.some.inj H
    go_enter Tryd.func77, Tryd.ntmps77
    go_wp2
    go_ret
    exact ⟨by first | rfl | (simp; done) | (simp [*]; done), by repeat (first | exact Drawn0.refl _ | apply Drawn0.step)⟩
   ·rw [if_neg c4] at H
    have c4b0 : (a0 == 13) = false := beq_eq_false_iff_ne.mpr c4
    have c4b1 : (a0 != 13) = true := bne_iff_ne.mpr c4
    replace H := Option.bind_eq_some_iff.mp H
    obtain ⟨t123, A50, H⟩ := H
    replace H : (if t123 = true then (some true) else ((impl_in.f a0 57344 65533).bind fun t124 => (if t124 = true then (some true) else ((impl_in.f a0 65536 1114111).bind fun t125 => (some t125))))) = some r := H
    have A5 := Aside0.mk A50
    clear A50
    by_cases c6 : t123 = true
    ·subst c6
     have H1 : (some true) = some r := by rw [if_pos rfl] at H; exact H
     clear H
     have H := H1
     clear H1
     obtain rfl := Option.some.inj H
     go_enter Tryd.func77, Tryd.ntmps77
     go_wp2_with (first | (go_at_call 54; (with_reducible refine (impl_in.calls a0 32 55295 true _ A5.out).mono ?_); rintro e w' ⟨rfl, ⟨nd, rfl⟩⟩))
     go_ret
     exact ⟨by first | rfl | (simp; done) | (simp [*]; done), by repeat (first | exact Drawn0.refl _ | apply Drawn0.step)⟩
    ·replace c6 := Bool.eq_false_iff.mpr c6
     subst c6
     have H1 : ((impl_in.f a0 57344 65533).bind fun t124 => (if t124 = true then (some true) else ((impl_in.f a0 65536 1114111).bind fun t125 => (some t125)))) = some r := by rw [if_neg (show ¬ (false = true) by decide)] at H; exact H
     clear H
     have H := H1
     clear H1
     replace H := Option.bind_eq_some_iff.mp H
     obtain ⟨t124, A70, H⟩ := H
     replace H : (if t124 = true then (some true) else ((impl_in.f a0 65536 1114111).bind fun t125 => (some t125))) = some r := H
     have A7 := Aside0.mk A70
     clear A70
     by_cases c8 : t124 = true
     ·subst c8
      have H1 : (some true) = some r := by rw [if_pos rfl] at H; exact H
      clear H
      have H := H1
      clear H1
      obtain rfl := Option.some.inj H
      go_enter Tryd.func77, Tryd.ntmps77
      go_wp2_with (first | (go_at_call 54; (with_reducible refine (impl_in.calls a0 32 55295 false _ A5.out).mono ?_); rintro e w' ⟨rfl, ⟨nd, rfl⟩⟩) | (go_at_call 54; (with_reducible refine (impl_in.calls a0 57344 65533 true _ A7.out).mono ?_); rintro e w' ⟨rfl, ⟨nd, rfl⟩⟩))
      go_ret
      exact ⟨by first | rfl | (simp; done) | (simp [*]; done), by repeat (first | exact Drawn0.refl _ | apply Drawn0.step)⟩
     ·replace c8 := Bool.eq_false_iff.mpr c8
      subst c8
      have H1 : ((impl_in.f a0 65536 1114111).bind fun t125 => (some t125)) = some r := by rw [if_neg (show ¬ (false = true) by decide)] at H; exact H
      clear H
      have H := H1
      clear H1
      replace H := Option.bind_eq_some_iff.mp H
      obtain ⟨t125, A90, H⟩ := H
      replace H : (some t125) = some r := H
      have A9 := Aside0.mk A90
      clear A90
      obtain rfl := Option.some.inj H
      go_enter Tryd.func77, Tryd.ntmps77
      go_wp2_with (first | (go_at_call 54; (with_reducible refine (impl_in.calls a0 32 55295 false _ A5.out).mono ?_); rintro e w' ⟨rfl, ⟨nd, rfl⟩⟩) | (go_at_call 54; (with_reducible refine (impl_in.calls a0 57344 65533 false _ A7.out).mono ?_); rintro e w' ⟨rfl, ⟨nd, rfl⟩⟩) | (go_at_call 54; (with_reducible refine (impl_in.calls a0 65536 1114111 t125 _ A9.out).mono ?_); rintro e w' ⟨rfl, ⟨nd, rfl⟩⟩))
      go_ret
      exact ⟨by first | rfl | (simp; done) | (simp [*]; done), by repeat (first | exact Drawn0.refl _ | apply Drawn0.step)⟩

/-! ### impl_isPlain: function 39 -/
def impl_isPlain.l0 : Nat → Bool → List Int → Int → Int → Option (Bool)
 | 0, _, _, _, _ => none
 | k + 1, x4, x12, x13, x14 => if x14 < x13 then (if 0 ≤ x14 then (if x14 < (x12.length : Int) then (if x4 = true then ((impl_CharOk.f (rd x12 x14)).bind fun t131 => (impl_isPlain.l0 k t131 x12 x13 (wrap64 (x14 + 1)))) else (impl_isPlain.l0 k false x12 x13 (wrap64 (x14 + 1)))) else (none)) else (none)) else (some x4)
def impl_isPlain.f (k : Nat) (a0 : ByteArray) : Option (Bool) := (impl_Runes.f a0).bind fun bt126 => (impl_isPlain.l0 k bt126.2 bt126.1 (bt126.1.length : Int) 0)
theorem impl_isPlain.mono_l : ∀ k, (∀ y0 y1 y2 y3, LeO (impl_isPlain.l0 k y0 y1 y2 y3) (impl_isPlain.l0 (k + 1) y0 y1 y2 y3))
 | 0 => fun _ _ _ _ r h => by simp [impl_isPlain.l0] at h
 | k + 1 => by
  have ih0 := impl_isPlain.mono_l k
  ·intro y0 y1 y2 y3
   unfold impl_isPlain.l0
   repeat' first
   | (with_reducible exact ih0 _ _ _ _)
   | (with_reducible exact LeO.refl _)
   | (with_reducible exact LeO.none _)
   | (with_reducible refine LeO.ite ?_ ?_)
   | (with_reducible refine LeO.bind ?_ (fun _ => ?_))
   | exact ih0 _ _ _ _
   | exact LeO.none _
   | refine LeO.ite ?_ ?_
   | refine LeO.bind ?_ (fun _ => ?_)
theorem impl_isPlain.mono : ∀ a0 k, LeO (impl_isPlain.f k a0) (impl_isPlain.f (k + 1) a0) := by
 intro a0 k
 have ih0 := impl_isPlain.mono_l k
 unfold impl_isPlain.f
 repeat' first
   | (with_reducible exact ih0 _ _ _ _)
   | (with_reducible exact LeO.refl _)
   | (with_reducible exact LeO.none _)
   | (with_reducible refine LeO.ite ?_ ?_)
   | (with_reducible refine LeO.bind ?_ (fun _ => ?_))
   | exact ih0 _ _ _ _
   | exact LeO.none _
   | refine LeO.ite ?_ ?_
   | refine LeO.bind ?_ (fun _ => ?_)
set_option maxHeartbeats 8000000 in
set_option maxRecDepth 100000 in
theorem impl_isPlain.calls (k : Nat) (a0 : ByteArray) (r : Bool) (w : World) (hgl : GL w) (h : impl_isPlain.f k a0 = some r) :
  Calls Tryd.prog 39 #[.string a0] w fun e w' => e = .returned (.bool r) ∧ Below w.heap.size w w' := by
 have HGL := Aside0.mk hgl
 clear hgl
 have HB := Aside0.mk (Below.refl w.heap.size w)
 have H : ((impl_Runes.f a0).bind fun bt126 => (impl_isPlain.l0 k bt126.2 bt126.1 (bt126.1.length : Int) 0)) = some r := h
 clear h
 replace H := Option.bind_eq_some_iff.mp H
 obtain ⟨⟨t126, t127⟩, A20, H⟩ := H
 replace H : (impl_isPlain.l0 k t127 t126 (t126.length : Int) 0) = some r := H
 have A2 := Aside0.mk A20
 clear A20
 have H' := Aside0.mk H
 clear H
 go_enter Tryd.func39, Tryd.ntmps39
 go_wp2_with (first | ((with_reducible refine gate_callee (f := 76) rfl ?_); refine goesL_ (some 9) rfl rfl Tryd.func76 (by kernel_rfl) rfl #[.string a0] rfl (by (try simp only [List.map_toArray, List.map_cons, List.map_nil]); first | done | rfl | (simp only [List.length_drop, List.length_take]; rfl)) ?_; (with_reducible refine (impl_Runes.calls a0 t126 t127 _ ?side1 A2.out).mono ?_); (case side1 => exact GL.below HGL.out (by repeat (first | (with_reducible first | exact HB.out | apply below_alloc | apply pw_below_drewN | apply below_drew1) | exact HB.out))); rintro e w3 ⟨v128, rfl, ho0, hb⟩; refine ⟨_, rfl, ?_⟩; have n0_ := Aside0.mk (Kd.R_lower ho0 (below_size (by repeat (first | (with_reducible first | exact HB.out | apply below_alloc | apply pw_below_drewN | apply below_drew1) | exact HB.out)))); have n1_ := Aside0.mk (below_step (by repeat (first | (with_reducible first | exact HB.out | apply below_alloc | apply pw_below_drewN | apply below_drew1) | exact HB.out)) hb); clear HB; have HO129 := n0_; have HB := n1_; clear n0_ n1_; (try clear hb); (try clear hb2); (try clear hk); (try clear hi); (try clear ho0); obtain ⟨Ao4, co4, eo4⟩ := Kd.R_slice HO129.out; subst eo4))
 go_loopg [4, 14] k (fun kq v4 v14 w' => ∃ (x4_1 : Bool) (x14_1 : Int), v4 = .bool x4_1 ∧ v14 = .int .i64 x14_1 ∧ Aside0 (impl_isPlain.l0 kq x4_1 t126 (t126.length : Int) x14_1 = some r) ∧ Aside0 (kq ≤ k) ∧ Aside0 (Kd.R (Kd.int .i64) 2 w' w.heap.size (fun _ => True) (.slice Ao4 t126.length co4) t126) ∧ Aside0 (Below w.heap.size w w'))
 case atStart => exact ⟨(t127), (0), (by first | rfl | (simp; done) | (simp [*]; done)), (by first | rfl | (simp; done) | (simp [*]; done)), H', ⟨Nat.le_refl _⟩, ⟨by (with_reducible repeat (first | apply Kd.R_alloc | apply Kd.R_drewN | apply Kd.R_drew)); exact HO129.out⟩, ⟨by repeat (first | (with_reducible first | exact HB.out | apply below_alloc | apply pw_below_drewN | apply below_drew1) | exact HB.out)⟩⟩
 case round =>
  clear H'
  try clear p2
  try clear c3
  obtain ⟨x4_1, x14_1, rfl, rfl, HA, HK1, HO_12, HB⟩ := hrel
  cases gk with
  | zero => exact absurd HA.out (by simp [impl_isPlain.l0])
  | succ k1 =>
   have H := HA.out
   clear HA
   simp only [impl_isPlain.l0] at H
   by_cases c5 : x14_1 < (t126.length : Int)
   ·rw [if_pos c5] at H
    have c5b0 : decide (x14_1 < (t126.length : Int)) = true := decide_eq_true c5
    clear c5
    by_cases c6 : 0 ≤ x14_1
    ·rw [if_pos c6] at H
     have c6b0 : decide (0 ≤ x14_1) = true := decide_eq_true c6
     clear c6
     by_cases c7 : x14_1 < (t126.length : Int)
     ·rw [if_pos c7] at H
      have c7b0 : decide (x14_1 < (t126.length : Int)) = true := decide_eq_true c7
      clear c7
      by_cases c8 : x4_1 = true
      ·subst c8
       have H1 : ((impl_CharOk.f (rd t126 x14_1)).bind fun t131 => (impl_isPlain.l0 k1 t131 t126 (t126.length : Int) (wrap64 (x14_1 + 1)))) = some r := by rw [if_pos rfl] at H; exact H
       clear H
       have H := H1
       clear H1
       replace H := Option.bind_eq_some_iff.mp H
       obtain ⟨t131, A90, H⟩ := H
       replace H : (impl_isPlain.l0 k1 t131 t126 (t126.length : Int) (wrap64 (x14_1 + 1))) = some r := H
       have A9 := Aside0.mk A90
       clear A90
       have H' := Aside0.mk H
       clear H
       have p130 : 0 ≤ (x14_1 : Int) := of_decide_eq_true (by first | (with_reducible assumption) | assumption)
       have q130 : x14_1 < (t126.length : Int) := of_decide_eq_true (by first | (with_reducible assumption) | assumption)
       obtain ⟨ad130, e130, hx130_0⟩ := Kd.at_int (Kd.R_reads' HO_12.out).2.2 x14_1 p130 q130
       cases e130
       replace p130 := eq_true p130
       replace q130 := eq_true q130
       go_wp2_with (first | (go_at_call 77; (with_reducible refine (impl_CharOk.calls (rd t126 x14_1) t131 _ A9.out).mono ?_); rintro e w' ⟨rfl, ⟨nd, rfl⟩⟩))
       go_roundg k1
       case measure => have := HK1.out; omega
       case rel => exact ⟨(t131), (wrap64 (x14_1 + 1)), (by first | rfl | (simp; done) | (simp [*]; done)), (by first | rfl | (simp; done) | (simp [*]; done)), H', ⟨by have := HK1.out; omega⟩, ⟨by (with_reducible repeat (first | apply Kd.R_alloc | apply Kd.R_drewN | apply Kd.R_drew)); exact HO_12.out⟩, ⟨by repeat (first | (with_reducible first | exact HB.out | apply below_alloc | apply pw_below_drewN | apply below_drew1) | exact HB.out)⟩⟩
      ·replace c8 := Bool.eq_false_iff.mpr c8
       subst c8
       have H1 : (impl_isPlain.l0 k1 false t126 (t126.length : Int) (wrap64 (x14_1 + 1))) = some r := by rw [if_neg (show ¬ (false = true) by decide)] at H; exact H
       clear H
       have H := H1
       clear H1
       have H' := Aside0.mk H
       clear H
       have p130 : 0 ≤ (x14_1 : Int) := of_decide_eq_true (by first | (with_reducible assumption) | assumption)
       have q130 : x14_1 < (t126.length : Int) := of_decide_eq_true (by first | (with_reducible assumption) | assumption)
       obtain ⟨ad130, e130, hx130_0⟩ := Kd.at_int (Kd.R_reads' HO_12.out).2.2 x14_1 p130 q130
       cases e130
       replace p130 := eq_true p130
       replace q130 := eq_true q130
       go_wp2
       go_roundg k1
       case measure => have := HK1.out; omega
       case rel => exact ⟨(false), (wrap64 (x14_1 + 1)), (by first | rfl | (simp; done) | (simp [*]; done)), (by first | rfl | (simp; done) | (simp [*]; done)), H', ⟨by have := HK1.out; omega⟩, ⟨by (with_reducible repeat (first | apply Kd.R_alloc | apply Kd.R_drewN | apply Kd.R_drew)); exact HO_12.out⟩, ⟨by repeat (first | (with_reducible first | exact HB.out | apply below_alloc | apply pw_below_drewN | apply below_drew1) | exact HB.out)⟩⟩
     ·rw [if_neg c7] at H
      exact absurd H (by simp)
    ·rw [if_neg c6] at H
     exact absurd H (by simp)
   ·rw [if_neg c5] at H
    have c5b0 : decide (x14_1 < (t126.length : Int)) = false := decide_eq_false c5
    clear c5
    obtain rfl := Option.some.inj H
    go_wp2
    go_ret
    exact ⟨by first | rfl | (simp [*] <;> rfl), by repeat (first | (with_reducible first | exact HB.out | apply below_alloc | apply pw_below_drewN | apply below_drew1) | exact HB.out)⟩

/-! ### impl_Escape: function 14 -/
def impl_Escape.sign (attr : Bool) (b : UInt8) : ByteArray :=
  if (b.toNat : Int) = 38 then ⟨#[38, 97, 109, 112, 59]⟩ else if (b.toNat : Int) = 60 then ⟨#[38, 108, 116, 59]⟩ else if (b.toNat : Int) = 62 then ⟨#[38, 103, 116, 59]⟩ else if (b.toNat : Int) = 13 then ⟨#[38, 35, 49, 51, 59]⟩
  else if attr = true ∧ (b.toNat : Int) = 34 then ⟨#[38, 113, 117, 111, 116, 59]⟩ else if attr = true ∧ (b.toNat : Int) = 9 then ⟨#[38, 35, 57, 59]⟩ else if attr = true ∧ (b.toNat : Int) = 10 then ⟨#[38, 35, 49, 48, 59]⟩ else ⟨#[b]⟩
def impl_Escape.out (attr : Bool) (s : ByteArray) : ByteArray := ⟨(s.data.toList.flatMap fun b => (impl_Escape.sign attr b).data.toList).toArray⟩
def impl_Escape.f (k : Nat) (a0 : ByteArray) (a1 : Bool) : Option (ByteArray × Bool) := if (a0.size : Int) > 2500 then some ((⟨#[]⟩ : ByteArray), false) else ((impl_isPlain.f k a0).bind fun p => (if p = true then (some (impl_Escape.out a1 a0, true)) else (some ((⟨#[]⟩ : ByteArray), false))))
theorem impl_Escape.mono : ∀ a0 a1 k, LeO (impl_Escape.f k a0 a1) (impl_Escape.f (k + 1) a0 a1) := by
  intro a0 a1 k
  unfold impl_Escape.f
  repeat' first
    | (with_reducible exact impl_isPlain.mono _ _)
    | (with_reducible exact LeO.refl _)
    | (with_reducible exact LeO.none _)
    | (with_reducible refine LeO.ite ?_ ?_)
    | (with_reducible refine LeO.bind ?_ (fun _ => ?_))
def impl_Escape.strs8 : List ByteArray := [⟨#[38]⟩, ⟨#[38, 97, 109, 112, 59]⟩, ⟨#[60]⟩, ⟨#[38, 108, 116, 59]⟩, ⟨#[62]⟩, ⟨#[38, 103, 116, 59]⟩, ⟨#[13]⟩, ⟨#[38, 35, 49, 51, 59]⟩]
def impl_Escape.strs14 : List ByteArray := [⟨#[38]⟩, ⟨#[38, 97, 109, 112, 59]⟩, ⟨#[60]⟩, ⟨#[38, 108, 116, 59]⟩, ⟨#[62]⟩, ⟨#[38, 103, 116, 59]⟩, ⟨#[13]⟩, ⟨#[38, 35, 49, 51, 59]⟩, ⟨#[34]⟩, ⟨#[38, 113, 117, 111, 116, 59]⟩, ⟨#[9]⟩, ⟨#[38, 35, 57, 59]⟩, ⟨#[10]⟩, ⟨#[38, 35, 49, 48, 59]⟩]
theorem impl_Escape.tab8 (b : Nat) : Go.Proofs.YtbhklkpjjpkblaaDoorW.ReplM.tabOf impl_Escape.strs8 4 4 b = if b = 38 then some ⟨#[38, 97, 109, 112, 59]⟩ else if b = 60 then some ⟨#[38, 108, 116, 59]⟩ else if b = 62 then some ⟨#[38, 103, 116, 59]⟩ else if b = 13 then some ⟨#[38, 35, 49, 51, 59]⟩ else none := rfl
theorem impl_Escape.tab14 (b : Nat) : Go.Proofs.YtbhklkpjjpkblaaDoorW.ReplM.tabOf impl_Escape.strs14 7 7 b = if b = 38 then some ⟨#[38, 97, 109, 112, 59]⟩ else if b = 60 then some ⟨#[38, 108, 116, 59]⟩ else if b = 62 then some ⟨#[38, 103, 116, 59]⟩ else if b = 13 then some ⟨#[38, 35, 49, 51, 59]⟩ else if b = 34 then some ⟨#[38, 113, 117, 111, 116, 59]⟩ else if b = 9 then some ⟨#[38, 35, 57, 59]⟩ else if b = 10 then some ⟨#[38, 35, 49, 48, 59]⟩ else none := rfl
theorem impl_Escape.out_of (attr : Bool) (tab : Nat → Option ByteArray) (s : ByteArray) (h : ∀ b : UInt8, Go.Proofs.YtbhklkpjjpkblaaDoorW.ReplM.outB (Go.Proofs.YtbhklkpjjpkblaaDoorW.ReplM.tabB tab) b = (impl_Escape.sign attr b).data.toList) : Go.Proofs.YtbhklkpjjpkblaaDoorW.ReplM.outS tab s = impl_Escape.out attr s := by
  unfold Go.Proofs.YtbhklkpjjpkblaaDoorW.ReplM.outS Go.Proofs.YtbhklkpjjpkblaaDoorW.ReplM.outT impl_Escape.out
  rw [funext h]
theorem impl_Escape.out8 (s : ByteArray) : Go.Proofs.YtbhklkpjjpkblaaDoorW.ReplM.outS (Go.Proofs.YtbhklkpjjpkblaaDoorW.ReplM.tabOf impl_Escape.strs8 4 4) s = impl_Escape.out false s := by
  refine impl_Escape.out_of false _ s fun b => ?_
  unfold Go.Proofs.YtbhklkpjjpkblaaDoorW.ReplM.outB Go.Proofs.YtbhklkpjjpkblaaDoorW.ReplM.tabB impl_Escape.sign
  rw [impl_Escape.tab8]
  by_cases c1 : b.toNat = 38
  · rw [if_pos c1, if_pos (by omega)]; rfl
  · rw [if_neg c1, if_neg (show ¬ (b.toNat : Int) = 38 by omega)]
    by_cases c2 : b.toNat = 60
    · rw [if_pos c2, if_pos (by omega)]; rfl
    · rw [if_neg c2, if_neg (show ¬ (b.toNat : Int) = 60 by omega)]
      by_cases c3 : b.toNat = 62
      · rw [if_pos c3, if_pos (by omega)]; rfl
      · rw [if_neg c3, if_neg (show ¬ (b.toNat : Int) = 62 by omega)]
        by_cases c4 : b.toNat = 13
        · rw [if_pos c4, if_pos (by omega)]; rfl
        · rw [if_neg c4, if_neg (show ¬ (b.toNat : Int) = 13 by omega), if_neg (by simp), if_neg (by simp), if_neg (by simp)]; rfl
theorem impl_Escape.out14 (s : ByteArray) : Go.Proofs.YtbhklkpjjpkblaaDoorW.ReplM.outS (Go.Proofs.YtbhklkpjjpkblaaDoorW.ReplM.tabOf impl_Escape.strs14 7 7) s = impl_Escape.out true s := by
  refine impl_Escape.out_of true _ s fun b => ?_
  unfold Go.Proofs.YtbhklkpjjpkblaaDoorW.ReplM.outB Go.Proofs.YtbhklkpjjpkblaaDoorW.ReplM.tabB impl_Escape.sign
  rw [impl_Escape.tab14]
  by_cases c1 : b.toNat = 38
  · rw [if_pos c1, if_pos (by omega)]; rfl
  · rw [if_neg c1, if_neg (show ¬ (b.toNat : Int) = 38 by omega)]
    by_cases c2 : b.toNat = 60
    · rw [if_pos c2, if_pos (by omega)]; rfl
    · rw [if_neg c2, if_neg (show ¬ (b.toNat : Int) = 60 by omega)]
      by_cases c3 : b.toNat = 62
      · rw [if_pos c3, if_pos (by omega)]; rfl
      · rw [if_neg c3, if_neg (show ¬ (b.toNat : Int) = 62 by omega)]
        by_cases c4 : b.toNat = 13
        · rw [if_pos c4, if_pos (by omega)]; rfl
        · rw [if_neg c4, if_neg (show ¬ (b.toNat : Int) = 13 by omega)]
          by_cases c5 : b.toNat = 34
          · rw [if_pos c5, if_pos ⟨rfl, by omega⟩]; rfl
          · rw [if_neg c5, if_neg (show ¬ (true = true ∧ (b.toNat : Int) = 34) from fun h => c5 (by have := h.2; omega))]
            by_cases c6 : b.toNat = 9
            · rw [if_pos c6, if_pos ⟨rfl, by omega⟩]; rfl
            · rw [if_neg c6, if_neg (show ¬ (true = true ∧ (b.toNat : Int) = 9) from fun h => c6 (by have := h.2; omega))]
              by_cases c7 : b.toNat = 10
              · rw [if_pos c7, if_pos ⟨rfl, by omega⟩]; rfl
              · rw [if_neg c7, if_neg (show ¬ (true = true ∧ (b.toNat : Int) = 10) from fun h => c7 (by have := h.2; omega))]; rfl
theorem impl_Escape.lit {W : World} {G : Nat} {t : TypeId} {cur : Array Value} (xs : List ByteArray) (hl : xs.length ≤ 1000) (hg : W.heap[G]? = some (.cells cur t (0, 0))) (hc : ∀ (j : Nat) (x : ByteArray), xs[j]? = some x → cur[j]? = some (Value.string x)) : Kd.string.C W (some ⟨G, 0, none⟩) xs.length xs := by
  refine ⟨rfl, by omega, fun _ => ⟨_, rfl, fun j p hj => ⟨[Value.string p], rfl, rfl, fun i v hi => ?_⟩⟩⟩
  obtain rfl : i = 0 := by
    have := (List.getElem?_eq_some_iff.1 hi).1
    simp at this
    exact this
  injection hi with hi
  subst hi
  rw [add_plain]
  unfold World.cell?
  dsimp only
  rw [hg]
  show cur[j * 1 + 0]? = _
  rw [Nat.mul_one]
  exact hc j p hj
theorem impl_Escape.third (w1 : World) (o1 o2 : Obj) (cur : Array Value) (t : TypeId) : (((w1.alloc o1).alloc o2).alloc (.cells cur t (0, 0))).drew.heap[w1.heap.size + 1 + 1]? = some (.cells cur t (0, 0)) := by
  have h := blk_new ((w1.alloc o1).alloc o2) (.cells cur t (0, 0))
  have e : ((w1.alloc o1).alloc o2).heap.size = w1.heap.size + 1 + 1 := by simp
  rw [e] at h
  exact h
theorem impl_Escape.chain {w w1 w2 w3 : World} {b : Nat} (h1 : Below w.heap.size w w1) (h2 : Below w1.heap.size w1 w2) (hb : w1.heap.size ≤ b) (h3 : Below b w2 w3) : Below w.heap.size w w3 :=
  (h1.trans (h2.mono h1.size)).trans (h3.mono (Nat.le_trans h1.size hb))
theorem impl_Escape.old8 : ∀ j : Nat, j < 4 → (rdOf ByteArray.empty impl_Escape.strs8 ((2 * j : Nat) : Int)).size = 1 := by decide
theorem impl_Escape.long8 : ∀ j : Nat, j < 4 → (rdOf ByteArray.empty impl_Escape.strs8 ((2 * j + 1 : Nat) : Int)).size ≤ 1000 := by decide
theorem impl_Escape.dist8 : ∀ i i', i < 4 → i' < 4 → Go.Proofs.YtbhklkpjjpkblaaDoorW.ReplM.keyAt impl_Escape.strs8 i = Go.Proofs.YtbhklkpjjpkblaaDoorW.ReplM.keyAt impl_Escape.strs8 i' → i = i' := by
  have h : ∀ i, i < 4 → ∀ i', i' < 4 → Go.Proofs.YtbhklkpjjpkblaaDoorW.ReplM.keyAt impl_Escape.strs8 i = Go.Proofs.YtbhklkpjjpkblaaDoorW.ReplM.keyAt impl_Escape.strs8 i' → i = i' := by decide
  exact fun i i' h1 h2 => h i h1 i' h2
theorem impl_Escape.old14 : ∀ j : Nat, j < 7 → (rdOf ByteArray.empty impl_Escape.strs14 ((2 * j : Nat) : Int)).size = 1 := by decide
theorem impl_Escape.long14 : ∀ j : Nat, j < 7 → (rdOf ByteArray.empty impl_Escape.strs14 ((2 * j + 1 : Nat) : Int)).size ≤ 1000 := by decide
theorem impl_Escape.dist14 : ∀ i i', i < 7 → i' < 7 → Go.Proofs.YtbhklkpjjpkblaaDoorW.ReplM.keyAt impl_Escape.strs14 i = Go.Proofs.YtbhklkpjjpkblaaDoorW.ReplM.keyAt impl_Escape.strs14 i' → i = i' := by
  have h : ∀ i, i < 7 → ∀ i', i' < 7 → Go.Proofs.YtbhklkpjjpkblaaDoorW.ReplM.keyAt impl_Escape.strs14 i = Go.Proofs.YtbhklkpjjpkblaaDoorW.ReplM.keyAt impl_Escape.strs14 i' → i = i' := by decide
  exact fun i i' h1 h2 => h i h1 i' h2
theorem impl_Escape.calls (k : Nat) (a0 : ByteArray) (a1 : Bool) (r1 : ByteArray) (r2 : Bool) (w : World) (hgl : GL w) (h : impl_Escape.f k a0 a1 = some (r1, r2)) :
    Calls Tryd.prog 14 #[.string a0, .bool a1] w fun e w' => e = .returned (.tuple #[.string r1, .bool r2]) ∧ Below w.heap.size w w' := by
  have HGL := Aside0.mk hgl
  clear hgl
  have HB := Aside0.mk (Below.refl w.heap.size w)
  have H : (if (a0.size : Int) > 2500 then some ((⟨#[]⟩ : ByteArray), false) else ((impl_isPlain.f k a0).bind fun p => (if p = true then (some (impl_Escape.out a1 a0, true)) else (some ((⟨#[]⟩ : ByteArray), false))))) = some (r1, r2) := h
  clear h
  by_cases hz : (a0.size : Int) > 2500
  · rw [if_pos hz] at H
    obtain ⟨rfl, rfl⟩ := Prod.mk.inj (Option.some.inj H)
    have c1 : decide ((2500 : Int) < (a0.size : Int)) = true := decide_eq_true hz
    clear hz H
    go_enter Tryd.func14, Tryd.ntmps14
    go_wp2
    go_ret2
    exact ⟨rfl, HB.out⟩
  · rw [if_neg hz] at H
    obtain ⟨p, hp, H⟩ := Option.bind_eq_some_iff.1 H
    have c1 : decide ((2500 : Int) < (a0.size : Int)) = false := decide_eq_false hz
    have HS : Aside0 (a0.size ≤ 2500) := ⟨by omega⟩
    have HP := Aside0.mk hp
    clear hz hp
    cases p with
    | false =>
      obtain ⟨rfl, rfl⟩ := Prod.mk.inj (Option.some.inj H)
      clear H
      go_enter Tryd.func14, Tryd.ntmps14
      go_wp2_with (go_at_call 39; refine (impl_isPlain.calls k a0 false _ HGL.out HP.out).mono ?_; rintro e w1 ⟨rfl, hb1⟩; have HB1 := Aside0.mk hb1; clear hb1)
      go_ret2
      exact ⟨rfl, HB1.out⟩
    | true =>
      obtain ⟨rfl, rfl⟩ := Prod.mk.inj (Option.some.inj H)
      clear H
      cases a1 with
      | false =>
        go_enter Tryd.func14, Tryd.ntmps14
        go_wp2_with (first | (go_at_call 39; refine (impl_isPlain.calls k a0 true _ HGL.out HP.out).mono ?_; rintro e w1 ⟨rfl, hb1⟩; have HB1 := Aside0.mk hb1; clear hb1) | (go_at_call 46; (refine (Go.Proofs.YtbhklkpjjpkblaaDoorW.RepM.newReplacer _ 8 4 impl_Escape.strs8 _ (impl_Escape.lit impl_Escape.strs8 (by decide) (blk_new w1 _) ?lit) rfl (by decide)).mono ?_); (case lit => intro j x hj; match j with | 0 => exact congrArg (Option.map Value.string) hj | 1 => exact congrArg (Option.map Value.string) hj | 2 => exact congrArg (Option.map Value.string) hj | 3 => exact congrArg (Option.map Value.string) hj | 4 => exact congrArg (Option.map Value.string) hj | 5 => exact congrArg (Option.map Value.string) hj | 6 => exact congrArg (Option.map Value.string) hj | 7 => exact congrArg (Option.map Value.string) hj | j + 8 => cases hj); rintro e w2 ⟨b, v, rfl, hb, hh, hr, hb2⟩; have HH := Aside0.mk hh; have HR := Aside0.mk hr; have HB2 := Aside0.mk hb2; have HBL := Aside0.mk hb; clear hh hr hb2 hb) | (go_at_call 47; refine (Go.Proofs.YtbhklkpjjpkblaaDoorW.RepM.whole b _ 4 v impl_Escape.strs8 a0 w2 HH.out HR.out rfl (by decide) (by decide) impl_Escape.old8 ⟨0, by decide, by decide⟩ impl_Escape.long8 impl_Escape.dist8 (by have := HS.out; omega)).mono ?_; rintro e w3 ⟨rfl, hb3⟩; have HB3 := Aside0.mk hb3; clear hb3))
        go_ret2
        exact ⟨by rw [impl_Escape.out8]; rfl, impl_Escape.chain (HB1.out.alloc HB1.out.size _) HB2.out HBL.out HB3.out⟩
      | true =>
        go_enter Tryd.func14, Tryd.ntmps14
        go_wp2_with (first | (go_at_call 39; refine (impl_isPlain.calls k a0 true _ HGL.out HP.out).mono ?_; rintro e w1 ⟨rfl, hb1⟩; have HB1 := Aside0.mk hb1; clear hb1) | (go_at_call 46; (refine (Go.Proofs.YtbhklkpjjpkblaaDoorW.RepM.newReplacer _ _ 7 impl_Escape.strs14 _ (impl_Escape.lit impl_Escape.strs14 (by decide) (impl_Escape.third w1 _ _ _ _) ?lit) rfl (by decide)).mono ?_); (case lit => intro j x hj; match j with | 0 => (rw [Array.getElem?_append_left (by decide)]; exact congrArg (Option.map Value.string) hj) | 1 => (rw [Array.getElem?_append_left (by decide)]; exact congrArg (Option.map Value.string) hj) | 2 => (rw [Array.getElem?_append_left (by decide)]; exact congrArg (Option.map Value.string) hj) | 3 => (rw [Array.getElem?_append_left (by decide)]; exact congrArg (Option.map Value.string) hj) | 4 => (rw [Array.getElem?_append_left (by decide)]; exact congrArg (Option.map Value.string) hj) | 5 => (rw [Array.getElem?_append_left (by decide)]; exact congrArg (Option.map Value.string) hj) | 6 => (rw [Array.getElem?_append_left (by decide)]; exact congrArg (Option.map Value.string) hj) | 7 => (rw [Array.getElem?_append_left (by decide)]; exact congrArg (Option.map Value.string) hj) | 8 => (rw [Array.getElem?_append_right (by decide), Array.getElem?_append_left (by decide)]; exact congrArg (Option.map Value.string) hj) | 9 => (rw [Array.getElem?_append_right (by decide), Array.getElem?_append_left (by decide)]; exact congrArg (Option.map Value.string) hj) | 10 => (rw [Array.getElem?_append_right (by decide), Array.getElem?_append_left (by decide)]; exact congrArg (Option.map Value.string) hj) | 11 => (rw [Array.getElem?_append_right (by decide), Array.getElem?_append_left (by decide)]; exact congrArg (Option.map Value.string) hj) | 12 => (rw [Array.getElem?_append_right (by decide), Array.getElem?_append_left (by decide)]; exact congrArg (Option.map Value.string) hj) | 13 => (rw [Array.getElem?_append_right (by decide), Array.getElem?_append_left (by decide)]; exact congrArg (Option.map Value.string) hj) | j + 14 => cases hj); rintro e w2 ⟨b, v, rfl, hb, hh, hr, hb2⟩; have HH := Aside0.mk hh; have HR := Aside0.mk hr; have HB2 := Aside0.mk hb2; have HBL := Aside0.mk hb; clear hh hr hb2 hb) | (go_at_call 47; refine (Go.Proofs.YtbhklkpjjpkblaaDoorW.RepM.whole b _ 7 v impl_Escape.strs14 a0 w2 HH.out HR.out rfl (by decide) (by decide) impl_Escape.old14 ⟨0, by decide, by decide⟩ impl_Escape.long14 impl_Escape.dist14 (by have := HS.out; omega)).mono ?_; rintro e w3 ⟨rfl, hb3⟩; have HB3 := Aside0.mk hb3; clear hb3))
        go_ret2
        exact ⟨by rw [impl_Escape.out14]; rfl, impl_Escape.chain ((pw_below_drewN (((HB1.out.alloc HB1.out.size _).alloc (by simp; have := HB1.out.size; omega) _).alloc (by simp; have := HB1.out.size; omega) _) 1)) HB2.out HBL.out HB3.out⟩

/-! ### laws_FnExactEscape: function 4 -/
def laws_FnExactEscape.f (k : Nat) (a0 : ByteArray) (a1 : Bool) : Option (Bool) := if (a0.size : Int) > 1048576 then (some true) else ((spec_Escape.f k a0 a1).bind fun bt132 => ((impl_Escape.f k a0 a1).bind fun bt134 => (if bt134.1.toList = bt132.1.toList then (if (bt134.2 != bt132.2) = true then (some false) else (some true)) else (some false))))
theorem laws_FnExactEscape.mono : ∀ a0 a1 k, LeO (laws_FnExactEscape.f k a0 a1) (laws_FnExactEscape.f (k + 1) a0 a1) := by
 intro a0 a1 k
 unfold laws_FnExactEscape.f
 repeat' first
   | (with_reducible exact impl_Escape.mono _ _ _)
   | (with_reducible exact spec_Escape.mono _ _ _)
   | (with_reducible exact LeO.refl _)
   | (with_reducible exact LeO.none _)
   | (with_reducible refine LeO.ite ?_ ?_)
   | (with_reducible refine LeO.bind ?_ (fun _ => ?_))
   | exact impl_Escape.mono _ _ _
   | exact spec_Escape.mono _ _ _
   | exact LeO.none _
   | refine LeO.ite ?_ ?_
   | refine LeO.bind ?_ (fun _ => ?_)
set_option maxHeartbeats 8000000 in
set_option maxRecDepth 100000 in
theorem laws_FnExactEscape.calls (k : Nat) (a0 : ByteArray) (a1 : Bool) (r : Bool) (w : World) (hgl : GL w) (h : laws_FnExactEscape.f k a0 a1 = some r) :
  Calls Tryd.prog 4 #[.string a0, .bool a1] w fun e w' => e = .returned (.bool r) ∧ Below w.heap.size w w' := by
 have HGL := Aside0.mk hgl
 clear hgl
 have HB := Aside0.mk (Below.refl w.heap.size w)
 have H : (if (a0.size : Int) > 1048576 then (some true) else ((spec_Escape.f k a0 a1).bind fun bt132 => ((impl_Escape.f k a0 a1).bind fun bt134 => (if bt134.1.toList = bt132.1.toList then (if (bt134.2 != bt132.2) = true then (some false) else (some true)) else (some false))))) = some r := h
 clear h
 by_cases c3 : (a0.size : Int) > 1048576
 ·rw [if_pos c3] at H
  have c3b0 : decide (1048576 < (a0.size : Int)) = true := decide_eq_true c3
  have c3b1 : decide (1048576 < a0.size) = true := decide_eq_true (by omega)
  clear c3
  obtain rfl := Option.some.inj H
  go_enter Tryd.func4, Tryd.ntmps4
  go_wp2
  go_ret
  exact ⟨by first | rfl | (simp [*] <;> rfl), by repeat (first | (with_reducible first | exact HB.out | apply below_alloc | apply pw_below_drewN | apply below_drew1) | exact HB.out)⟩
 ·rw [if_neg c3] at H
  have c3b0 : decide (1048576 < (a0.size : Int)) = false := decide_eq_false c3
  have c3b1 : decide (1048576 < a0.size) = false := decide_eq_false (by omega)
  clear c3
  replace H := Option.bind_eq_some_iff.mp H
  obtain ⟨⟨t132, t133⟩, A40, H⟩ := H
  replace H : ((impl_Escape.f k a0 a1).bind fun bt134 => (if bt134.1.toList = t132.toList then (if (bt134.2 != t133) = true then (some false) else (some true)) else (some false))) = some r := H
  have A4 := Aside0.mk A40
  clear A40
  replace H := Option.bind_eq_some_iff.mp H
  obtain ⟨⟨t134, t135⟩, A50, H⟩ := H
  replace H : (if t134.toList = t132.toList then (if (t135 != t133) = true then (some false) else (some true)) else (some false)) = some r := H
  have A5 := Aside0.mk A50
  clear A50
  by_cases c6 : t134.toList = t132.toList
  ·rw [if_pos c6] at H
   have c6b0 : (t134.toList == t132.toList) = true := beq_iff_eq.mpr c6
   have c6b1 : (t134.toList != t132.toList) = false := bne_eq_false_iff_eq.mpr c6
   clear c6
   by_cases c7 : (t135 != t133) = true
   ·rw [if_pos c7] at H
    have c7b0 : (t135 != t133) = true := c7
    (try (have c7b1 : decide (t135 = t133) = false := by simpa using c7))
    (try (have c7b2 : (t135 == t133) = false := by simpa using c7))
    (try (have c7b3 : ¬ (t135 = t133) := by simpa using c7))
    clear c7
    obtain rfl := Option.some.inj H
    go_enter Tryd.func4, Tryd.ntmps4
    go_wp2_with (first | ((with_reducible refine gate_callee (f := 13) rfl ?_); refine goesL_ (some 15) rfl rfl Tryd.func13 (by kernel_rfl) rfl #[.string a0, .bool a1] rfl (by (try simp only [List.map_toArray, List.map_cons, List.map_nil]); first | done | rfl | (simp only [List.length_drop, List.length_take]; rfl)) ?_; (with_reducible refine (spec_Escape.calls k a0 a1 t132 t133 _ A4.out).mono ?_); rintro e w8 ⟨rfl, hb⟩; refine ⟨_, rfl, ?_⟩; have n0_ := Aside0.mk (below_step (by repeat (first | (with_reducible first | exact HB.out | apply below_alloc | apply pw_below_drewN | apply below_drew1) | exact HB.out)) hb); clear HB; have HB := n0_; clear n0_; (try clear hb); (try clear hb2); (try clear hk); (try clear hi)) | ((with_reducible refine gate_callee (f := 14) rfl ?_); refine goesL_ (some 21) rfl rfl Tryd.func14 (by kernel_rfl) rfl #[.string a0, .bool a1] rfl (by (try simp only [List.map_toArray, List.map_cons, List.map_nil]); first | done | rfl | (simp only [List.length_drop, List.length_take]; rfl)) ?_; (with_reducible refine (impl_Escape.calls k a0 a1 t134 t135 _ ?side1 A5.out).mono ?_); (case side1 => exact GL.below HGL.out (by repeat (first | (with_reducible first | exact HB.out | apply below_alloc | apply pw_below_drewN | apply below_drew1) | exact HB.out))); rintro e w9 ⟨rfl, hb⟩; refine ⟨_, rfl, ?_⟩; have n0_ := Aside0.mk (below_step (by repeat (first | (with_reducible first | exact HB.out | apply below_alloc | apply pw_below_drewN | apply below_drew1) | exact HB.out)) hb); clear HB; have HB := n0_; clear n0_; (try clear hb); (try clear hb2); (try clear hk); (try clear hi)))
    go_ret
    exact ⟨by first | rfl | (simp [*] <;> rfl), by repeat (first | (with_reducible first | exact HB.out | apply below_alloc | apply pw_below_drewN | apply below_drew1) | exact HB.out)⟩
   ·rw [if_neg c7] at H
    have c7b0 : (t135 != t133) = false := by simpa using c7
    (try (have c7b1 : decide (t135 = t133) = true := by simpa using c7))
    (try (have c7b2 : (t135 == t133) = true := by simpa using c7))
    clear c7
    obtain rfl := Option.some.inj H
    go_enter Tryd.func4, Tryd.ntmps4
    go_wp2_with (first | ((with_reducible refine gate_callee (f := 13) rfl ?_); refine goesL_ (some 15) rfl rfl Tryd.func13 (by kernel_rfl) rfl #[.string a0, .bool a1] rfl (by (try simp only [List.map_toArray, List.map_cons, List.map_nil]); first | done | rfl | (simp only [List.length_drop, List.length_take]; rfl)) ?_; (with_reducible refine (spec_Escape.calls k a0 a1 t132 t133 _ A4.out).mono ?_); rintro e w10 ⟨rfl, hb⟩; refine ⟨_, rfl, ?_⟩; have n0_ := Aside0.mk (below_step (by repeat (first | (with_reducible first | exact HB.out | apply below_alloc | apply pw_below_drewN | apply below_drew1) | exact HB.out)) hb); clear HB; have HB := n0_; clear n0_; (try clear hb); (try clear hb2); (try clear hk); (try clear hi)) | ((with_reducible refine gate_callee (f := 14) rfl ?_); refine goesL_ (some 21) rfl rfl Tryd.func14 (by kernel_rfl) rfl #[.string a0, .bool a1] rfl (by (try simp only [List.map_toArray, List.map_cons, List.map_nil]); first | done | rfl | (simp only [List.length_drop, List.length_take]; rfl)) ?_; (with_reducible refine (impl_Escape.calls k a0 a1 t134 t135 _ ?side1 A5.out).mono ?_); (case side1 => exact GL.below HGL.out (by repeat (first | (with_reducible first | exact HB.out | apply below_alloc | apply pw_below_drewN | apply below_drew1) | exact HB.out))); rintro e w11 ⟨rfl, hb⟩; refine ⟨_, rfl, ?_⟩; have n0_ := Aside0.mk (below_step (by repeat (first | (with_reducible first | exact HB.out | apply below_alloc | apply pw_below_drewN | apply below_drew1) | exact HB.out)) hb); clear HB; have HB := n0_; clear n0_; (try clear hb); (try clear hb2); (try clear hk); (try clear hi)))
    go_ret
    exact ⟨by first | rfl | (simp [*] <;> rfl), by repeat (first | (with_reducible first | exact HB.out | apply below_alloc | apply pw_below_drewN | apply below_drew1) | exact HB.out)⟩
  ·rw [if_neg c6] at H
   have c6b0 : (t134.toList == t132.toList) = false := beq_eq_false_iff_ne.mpr c6
   have c6b1 : (t134.toList != t132.toList) = true := bne_iff_ne.mpr c6
   obtain rfl := Option.some.inj H
   go_enter Tryd.func4, Tryd.ntmps4
   go_wp2_with (first | ((with_reducible refine gate_callee (f := 13) rfl ?_); refine goesL_ (some 15) rfl rfl Tryd.func13 (by kernel_rfl) rfl #[.string a0, .bool a1] rfl (by (try simp only [List.map_toArray, List.map_cons, List.map_nil]); first | done | rfl | (simp only [List.length_drop, List.length_take]; rfl)) ?_; (with_reducible refine (spec_Escape.calls k a0 a1 t132 t133 _ A4.out).mono ?_); rintro e w12 ⟨rfl, hb⟩; refine ⟨_, rfl, ?_⟩; have n0_ := Aside0.mk (below_step (by repeat (first | (with_reducible first | exact HB.out | apply below_alloc | apply pw_below_drewN | apply below_drew1) | exact HB.out)) hb); clear HB; have HB := n0_; clear n0_; (try clear hb); (try clear hb2); (try clear hk); (try clear hi)) | ((with_reducible refine gate_callee (f := 14) rfl ?_); refine goesL_ (some 21) rfl rfl Tryd.func14 (by kernel_rfl) rfl #[.string a0, .bool a1] rfl (by (try simp only [List.map_toArray, List.map_cons, List.map_nil]); first | done | rfl | (simp only [List.length_drop, List.length_take]; rfl)) ?_; (with_reducible refine (impl_Escape.calls k a0 a1 t134 t135 _ ?side1 A5.out).mono ?_); (case side1 => exact GL.below HGL.out (by repeat (first | (with_reducible first | exact HB.out | apply below_alloc | apply pw_below_drewN | apply below_drew1) | exact HB.out))); rintro e w13 ⟨rfl, hb⟩; refine ⟨_, rfl, ?_⟩; have n0_ := Aside0.mk (below_step (by repeat (first | (with_reducible first | exact HB.out | apply below_alloc | apply pw_below_drewN | apply below_drew1) | exact HB.out)) hb); clear HB; have HB := n0_; clear n0_; (try clear hb); (try clear hb2); (try clear hk); (try clear hi)))
   go_ret
   exact ⟨by first | rfl | (simp [*] <;> rfl), by repeat (first | (with_reducible first | exact HB.out | apply below_alloc | apply pw_below_drewN | apply below_drew1) | exact HB.out)⟩

/-- THE ONE PURE STATEMENT of laws_FnExactEscape. -/
def laws_FnExactEscape.Pure : Prop := ∀ (a0 : ByteArray) (a1 : Bool), a0.size ≤ 140737488351232 → ∃ k, laws_FnExactEscape.f k a0 a1 = some true

end Go.Proofs.YtbhklkpjjpkblaaDoor.PE
