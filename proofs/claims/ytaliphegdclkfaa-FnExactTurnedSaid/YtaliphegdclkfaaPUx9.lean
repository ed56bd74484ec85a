-- Printed by this session's pdrive.py over the kit's printer.
import Derived.Test.YtaliphegdclkfaaPUx0
import Derived.Test.YtaliphegdclkfaaPUx5
import Derived.Test.YtaliphegdclkfaaPUx8
namespace Go.Proofs.Ytaliphegdclkfaa.PU
open Go.RowKit Go.Proofs.YtaliphegdclkfaaW.PrintWords Go.Proofs.YtaliphegdclkfaaW.PrintLast Go.Proofs.YtaliphegdclkfaaW.PrintMore Go.Proofs.YtaliphegdclkfaaW.WordsB
attribute [local go_sem] max2_int min2_int max_two min_two max_three min_three max_four min_four   -- for this text's walks alone
set_option linter.unusedVariables false
set_option linter.unusedSimpArgs false

/-! ### slices_Clone_int64_int64: function 66 -/
def slices_Clone_int64_int64.f (l0 : List Int) : Option (List Int) := some l0
set_option maxHeartbeats 4000000 in
set_option maxRecDepth 100000 in
theorem slices_Clone_int64_int64.calls (A0 : Option Addr) (c0 : Nat) (l0 : List Int) (w : World) (hr0 : Kd.C (Kd.int .i64) w A0 l0.length l0) (hl : l0.length ≤ 1000000) :
    Calls Try.prog 66 #[.slice A0 l0.length c0] w fun e w' => ∃ v0_ : Value, e = .returned v0_ ∧ Kd.R (Kd.int .i64) 2 w' w.heap.size (fun _ => True) v0_ l0 ∧ Below w.heap.size w w' := by
  have q41 : ∀ (w : World) (a : Option Addr) (n c n' c' : Nat), (binOp .eql 41 (.slice a n c) (.slice none n' c')).run Try.prog w = .ok (.bool a.isNone) w := fun w a n c n' c' => Lib.run_eql_slice_nil w _ _ a n c n' c' Try.underlying41
  cases A0 with
  | none =>
    have e0 : l0 = [] := by
      cases l0 with
      | nil => rfl
      | cons x l =>
        exfalso
        obtain ⟨ad, c, e, _⟩ := Kd.C_get hr0 0 0 (by omega) (by simp only [List.length_cons]; omega)
        cases e
    subst e0
    clear hr0
    go_enter Try.func66, Try.ntmps66
    go_wp2
    go_ret
    exact ⟨_, rfl, Kd.R_nil _ _ _ _ _, by repeat (first | exact Below.refl _ _ | apply below_alloc | apply pw_below_drewN | apply below_drew1)⟩
  | some ad =>
    have HR0 := Aside0.mk hr0
    have HL := Aside0.mk hl
    have HB := Aside0.mk (Below.refl w.heap.size w)
    clear hr0 hl
    go_enter Try.func66, Try.ntmps66
    go_wp2_with (first | ((with_reducible refine gate_dst (N := 5) rfl ?_); (try (refine gate_guard (by rfl) ?_; dsimp only)); refine Kd.R_lit (Kd.int .i64) _ 2 ?hg (N := 5) ?hd (xs := ([] : List Int)) (inner := []) (ok := fun _ => True) (okp := fun _ => True) ?hr ?hp (fun _ hk => hk) trivial (Below.refl _ _) (Nat.le_refl _) (by simp) ?_; (case hd => rfl); (case hg => rfl); (case hr => first | (go_simp; done) | (go_simp; rfl)); (case hp => exact (Reps.none _ _)); intro v5 w5 ho hb hg_ hnew_; clear hg_ hnew_; have n0_ := Aside0.mk (Kd.R_lower ho (below_size (by repeat (first | (with_reducible first | exact HB.out | apply below_alloc | apply pw_below_drewN | apply below_drew1) | exact HB.out)))); have nb_ := Aside0.mk (below_step (by repeat (first | (with_reducible first | exact HB.out | apply below_alloc | apply pw_below_drewN | apply below_drew1) | exact HB.out)) hb); clear ho hb; clear HB; have HO := n0_; have HB := nb_; clear n0_ nb_) | ((with_reducible refine gate_builtin (b := .append) (xs := #[.tmp 5, .tmp 6]) rfl ?_); (try (refine gate_guard (by rfl) ?_; dsimp only)); at_builtin; refine Kd.R_append_rows (Kd.int .i64) (w0 := w) w.heap.size rfl (.tmp 5) (.tmp 6) 41 2 (.int .i64 0) 8 rfl Try.underlying41 info2 rfl (by decide) (by omega) v5 [] l0 _ _ _ (fun _ => True) (fun _ => False) rfl rfl ?aO ?aR (fun _ _ h => h) (fun _ h => h.elim) ?aF ?aB ?aS ?aL ?_; (case aR => exact Kd.C_below HR0.out (by repeat (first | (with_reducible first | exact HB.out | apply below_alloc | apply pw_below_drewN | apply below_drew1) | exact HB.out))); (case aB => exact (by repeat (first | (with_reducible first | exact HB.out | apply below_alloc | apply pw_below_drewN | apply below_drew1) | exact HB.out))); (case aF => exact (fun _ _ => trivial)); (case aO => exact (by (with_reducible repeat (first | apply Kd.R_alloc | apply Kd.R_drewN | apply Kd.R_drew)); exact HO.out)); (case aS => exact (below_size (by repeat (first | (with_reducible first | exact HB.out | apply below_alloc | apply pw_below_drewN | apply below_drew1) | exact HB.out)))); (case aL => have := HL.out; simp only [List.length_nil]; omega); intro v7 w7 ho hb hg hat; have n0_ := Aside0.mk ho; have nb_ := Aside0.mk hb; clear ho hb hg hat; clear HO HB; have HO := n0_; have HB := nb_; clear n0_ nb_))
    go_ret
    exact ⟨_, rfl, by first | exact HO.out | (simpa using HO.out), (by repeat (first | (with_reducible first | exact HB.out | apply below_alloc | apply pw_below_drewN | apply below_drew1) | exact HB.out))⟩

/-! ### slices_Reverse_int64_int64: function 71 -/
def slices_Reverse_int64_int64.l0 : Nat → List Int → Int → Int → Option (List Int)
 | 0, _, _, _ => none
 | k + 1, x0, x2, x3 => if x2 < x3 then (if 0 ≤ x3 then (if x3 < (x0.length : Int) then (if 0 ≤ x2 then (if x2 < (x0.length : Int) then (slices_Reverse_int64_int64.l0 k ((x0.set (x2 : Int).toNat (rd x0 x3)).set (x3 : Int).toNat (rd x0 x2)) (wrap64 (x2 + 1)) (wrap64 (x3 - 1))) else (none)) else (none)) else (none)) else (none)) else (some x0)
def slices_Reverse_int64_int64.f (k : Nat) (l0 : List Int) : Option (List Int) := slices_Reverse_int64_int64.l0 k l0 0 (wrap64 ((l0.length : Int) - 1))
theorem slices_Reverse_int64_int64.mono_l : ∀ k, (∀ y0 y1 y2, LeO (slices_Reverse_int64_int64.l0 k y0 y1 y2) (slices_Reverse_int64_int64.l0 (k + 1) y0 y1 y2))
 | 0 => fun _ _ _ r h => by simp [slices_Reverse_int64_int64.l0] at h
 | k + 1 => by
  have ih0 := slices_Reverse_int64_int64.mono_l k
  ·intro y0 y1 y2
   unfold slices_Reverse_int64_int64.l0
   repeat' first
   | (with_reducible exact ih0 _ _ _)
   | (with_reducible exact LeO.refl _)
   | (with_reducible exact LeO.none _)
   | (with_reducible refine LeO.ite ?_ ?_)
   | (with_reducible refine LeO.bind ?_ (fun _ => ?_))
   | exact ih0 _ _ _
   | exact LeO.none _
   | refine LeO.ite ?_ ?_
   | refine LeO.bind ?_ (fun _ => ?_)
theorem slices_Reverse_int64_int64.mono : ∀ a0 k, LeO (slices_Reverse_int64_int64.f k a0) (slices_Reverse_int64_int64.f (k + 1) a0) := by
 intro a0 k
 have ih0 := slices_Reverse_int64_int64.mono_l k
 unfold slices_Reverse_int64_int64.f
 repeat' first
   | (with_reducible exact ih0 _ _ _)
   | (with_reducible exact LeO.refl _)
   | (with_reducible exact LeO.none _)
   | (with_reducible refine LeO.ite ?_ ?_)
   | (with_reducible refine LeO.bind ?_ (fun _ => ?_))
   | exact ih0 _ _ _
   | exact LeO.none _
   | refine LeO.ite ?_ ?_
   | refine LeO.bind ?_ (fun _ => ?_)
def slices_Reverse_int64_int64.T3 : Bool × List (List Nat × List Nat) := (true, [([], []), ([], []), ([], []), ([], []), ([], []), ([], []), ([4, 5], [4, 5]), ([6], [6]), ([], []), ([], []), ([8, 9], [8, 9]), ([10], [10]), ([0, 1, 0, 1, 4, 5, 6, 7, 11], [0, 1]), ([12, 7, 0, 1, 4, 5, 6, 7, 11], [7, 12]), ([2, 3, 0, 1, 2, 3, 4, 5, 6, 7, 8, 9, 10, 11, 12, 13], [2, 3]), ([14, 11, 13, 0, 1, 2, 3, 4, 5, 6, 7, 8, 9, 10, 11, 12, 13], [11, 14])])
def slices_Reverse_int64_int64.B3 : List Nat := [0, 0, 0, 0, 0, 0, 48, 112, 0, 0, 768, 1792, 4083, 8179, 16383, 32767]
theorem slices_Reverse_int64_int64.tab3 : rtab .any (opsOf Try.f71 3) = slices_Reverse_int64_int64.T3 := by kernel_rfl
theorem slices_Reverse_int64_int64.bits3 : waitsOk slices_Reverse_int64_int64.T3.2 slices_Reverse_int64_int64.B3 = true := by kernel_rfl
set_option maxHeartbeats 8000000 in
set_option maxRecDepth 100000 in
theorem slices_Reverse_int64_int64.calls (k : Nat) (P0_ : Nat → Prop) (u9000_ : Value) (l0 : List Int) (r : List Int) (w0 w : World) (hB : Below w0.heap.size w0 w) (ho0 : Kd.R (Kd.int .i64) 2 w w0.heap.size P0_ u9000_ l0) (h : slices_Reverse_int64_int64.f k l0 = some r) :
  Calls Try.prog 71 #[u9000_] w fun e w' => e = .returned (.tuple #[]) ∧ Kd.R (Kd.int .i64) 2 w' w0.heap.size (fun k_ => (P0_ k_ ∨ w.heap.size ≤ k_)) u9000_ r ∧ Below w0.heap.size w0 w' ∧ Kept w w' (fun k_ => P0_ k_) := by
 have HO0 := Aside0.mk (show Kd.R (Kd.int .i64) 2 w w0.heap.size (fun k_ => (P0_ k_ ∨ w.heap.size ≤ k_)) u9000_ l0 from Kd.R_mono ho0 (fun k_ hk => (.inl hk)))
 have HK := Aside0.mk (Kept.refl w (fun k_ => P0_ k_))
 have HW0 := Aside0.mk hB.size
 have HB := Aside0.mk hB
 clear hB
 have H : (slices_Reverse_int64_int64.l0 k l0 0 (wrap64 ((l0.length : Int) - 1))) = some r := h
 clear h
 have H' := Aside0.mk H
 clear H
 obtain ⟨Ao2, co2, eo2⟩ := Kd.R_slice HO0.out
 subst eo2
 go_enter Try.func71, Try.ntmps71
 go_wp2
 go_loopg [2, 3] k (fun kq v2 v3 w' => ∃ (x0_1 : List Int) (x2_1 : Int) (x3_1 : Int), v2 = .int .i64 x2_1 ∧ v3 = .int .i64 x3_1 ∧ Aside0 (slices_Reverse_int64_int64.l0 kq x0_1 x2_1 x3_1 = some r) ∧ Aside0 (kq ≤ k) ∧ Aside0 (Kd.R (Kd.int .i64) 2 w' w0.heap.size (fun k_ => (P0_ k_ ∨ w.heap.size ≤ k_)) (.slice Ao2 l0.length co2) x0_1) ∧ Aside0 (Kept w w' (fun k_ => P0_ k_)) ∧ Aside0 (Below w0.heap.size w0 w'))
 case atStart => exact ⟨(l0), (0), (wrap64 ((l0.length : Int) - 1)), (by first | rfl | (simp; done) | (simp [*]; done)), (by first | rfl | (simp; done) | (simp [*]; done)), H', ⟨Nat.le_refl _⟩, ⟨by (with_reducible repeat (first | apply Kd.R_alloc | apply Kd.R_drewN | apply Kd.R_drew)); exact HO0.out⟩, ⟨by repeat (first | (with_reducible first | exact HK.out | apply Kept.alloc | apply Kept.drewN | apply Kept.drew) | exact HK.out)⟩, ⟨by repeat (first | (with_reducible first | exact HB.out | apply below_alloc | apply pw_below_drewN | apply below_drew1) | exact HB.out)⟩⟩
 case round =>
  clear H'
  try clear p2
  obtain ⟨x0_1, x2_1, x3_1, rfl, rfl, HA, HK1, HO_0, HK, HB⟩ := hrel
  have hl0_1 := (Kd.R_reads' HO_0.out).1
  rw [hl0_1] at HO_0
  (try simp only [hl0_1])
  cases gk with
  | zero => exact absurd HA.out (by simp [slices_Reverse_int64_int64.l0])
  | succ k1 =>
   have H := HA.out
   clear HA
   simp only [slices_Reverse_int64_int64.l0] at H
   by_cases c3 : x2_1 < x3_1
   ·rw [if_pos c3] at H
    have c3b0 : decide (x2_1 < x3_1) = true := decide_eq_true c3
    clear c3
    by_cases c4 : 0 ≤ x3_1
    ·rw [if_pos c4] at H
     have c4b0 : decide (0 ≤ x3_1) = true := decide_eq_true c4
     clear c4
     by_cases c5 : x3_1 < (x0_1.length : Int)
     ·rw [if_pos c5] at H
      have c5b0 : decide (x3_1 < (x0_1.length : Int)) = true := decide_eq_true c5
      clear c5
      by_cases c6 : 0 ≤ x2_1
      ·rw [if_pos c6] at H
       have c6b0 : decide (0 ≤ x2_1) = true := decide_eq_true c6
       clear c6
       by_cases c7 : x2_1 < (x0_1.length : Int)
       ·rw [if_pos c7] at H
        have c7b0 : decide (x2_1 < (x0_1.length : Int)) = true := decide_eq_true c7
        clear c7
        obtain ⟨y190, hy190⟩ : ∃ y_ : List Int, y_ = (x0_1.set (x2_1 : Int).toNat (rd x0_1 x3_1)) := ⟨_, rfl⟩
        replace H : (slices_Reverse_int64_int64.l0 k1 (y190.set (x3_1 : Int).toNat (rd x0_1 x2_1)) (wrap64 (x2_1 + 1)) (wrap64 (x3_1 - 1))) = some r := by first | (rw [hy190]; with_reducible exact H) | (have H2_ := (Option.bind_some _ _).symm.trans H; rw [hy190]; with_reducible exact H2_) | (have H2_ := (Option.bind_some _ _).symm.trans H; with_reducible exact H2_) | with_reducible exact H | (rw [hy190]; exact H) | exact H
        have Ny190 := Aside0.mk hy190
        clear hy190
        obtain ⟨y191, hy191⟩ : ∃ y_ : List Int, y_ = (y190.set (x3_1 : Int).toNat (rd x0_1 x2_1)) := ⟨_, rfl⟩
        replace H : (slices_Reverse_int64_int64.l0 k1 y191 (wrap64 (x2_1 + 1)) (wrap64 (x3_1 - 1))) = some r := by first | (rw [hy191]; with_reducible exact H) | (have H2_ := (Option.bind_some _ _).symm.trans H; rw [hy191]; with_reducible exact H2_) | (have H2_ := (Option.bind_some _ _).symm.trans H; with_reducible exact H2_) | with_reducible exact H | (rw [hy191]; exact H) | exact H
        have Ny191 := Aside0.mk hy191
        clear hy191
        have H' := Aside0.mk H
        clear H
        try go_wp2
        have n0_ := Aside0.mk (Kd.R_drew HO_0.out)
        have n1_ := Aside0.mk (Kept.drew HK.out)
        have n2_ := Aside0.mk (below_drew1 HB.out)
        clear HO_0
        clear HK
        clear HB
        have HO_0 := n0_
        have HK := n1_
        have HB := n2_
        clear n0_ n1_ n2_
        have p188 : 0 ≤ (x3_1 : Int) := of_decide_eq_true (by first | (with_reducible assumption) | assumption)
        have q188 : x3_1 < (x0_1.length : Int) := of_decide_eq_true (by first | (with_reducible assumption) | assumption)
        obtain ⟨ad188, e188, hx188_0⟩ := Kd.at_int (Kd.R_reads' HO_0.out).2.2 x3_1 p188 q188
        cases e188
        replace p188 := eq_true p188
        replace q188 := eq_true q188
        have p189 : 0 ≤ (x2_1 : Int) := of_decide_eq_true (by first | (with_reducible assumption) | assumption)
        have q189 : x2_1 < (x0_1.length : Int) := of_decide_eq_true (by first | (with_reducible assumption) | assumption)
        obtain ⟨ad189, e189, hx189_0⟩ := Kd.at_int (Kd.R_reads' HO_0.out).2.2 x2_1 p189 q189
        obtain rfl : ad188 = ad189 := (by injection e189)
        replace p189 := eq_true p189
        replace q189 := eq_true q189
        have p8 : 0 ≤ (x2_1 : Int) := of_decide_eq_true (by first | (with_reducible assumption) | assumption)
        have q8 : (x2_1 : Int) < ((x0_1.length : Int) : Int) := of_decide_eq_true (by first | (with_reducible assumption) | assumption)
        obtain ⟨go8, co8, eo8, gb8, gl8, cl8, HG8⟩ := Kd.R_form HO_0.out (by omega)
        (first | cases eo8 | (injection eo8 with ea_ en_ ec_; (first | subst ea_ | (injection ea_ with ea_; subst ea_)); subst ec_; clear en_))
        have GB8 := Aside0.mk gb8
        have GG8 := Aside0.mk HG8
        clear gb8 gl8 HG8
        have HMgo8 := Aside0.mk (show (P0_ go8 ∨ w.heap.size ≤ go8) from (HO_0.out.1 _ rfl))
        (first | simp only [add_plain] at hx188_0 | skip)
        (first | simp only [add_plain] at hx189_0 | skip)
        obtain ⟨hx8_0, hf8_0⟩ := Kd.R_celln 0 HO_0.out (x2_1 : Int) p8 q8
        replace p8 := eq_true p8
        replace q8 := eq_true q8
        have HP11 := Kd.R_putn HO_0.out (x2_1 : Int) (rd x0_1 x3_1)
        rw [← Ny190.out] at HP11
        have HQ11 := Aside0.mk HP11
        clear HP11
        have p9 : 0 ≤ (x3_1 : Int) := of_decide_eq_true (by first | (with_reducible assumption) | assumption)
        have q9 : (x3_1 : Int) < ((x0_1.length : Int) : Int) := of_decide_eq_true (by first | (with_reducible assumption) | assumption)
        obtain ⟨hx9_0, hf9_0⟩ := Kd.R_celln 0 HQ11.out (x3_1 : Int) p9 q9
        replace p9 := eq_true p9
        replace q9 := eq_true q9
        have HP12 := Kd.R_putn HQ11.out (x3_1 : Int) (rd x0_1 x2_1)
        rw [← Ny191.out] at HP12
        have HQ12 := Aside0.mk HP12
        clear HP12
        refine start_ (n := 16) (S := fun w' => w'.cell? ⟨go8, (x3_1).toNat, none⟩ = some (.int .i64 (rd x0_1 x3_1)) ∧ w'.cell? ⟨go8, (x2_1).toNat, none⟩ = some (.int .i64 (rd x0_1 x2_1))) (ds := [13, 15]) #[false, false, false, false, false, false, false, false, false, false, false, false, false, false, false, false] (by kernel_rfl) rfl rfl ⟨hx188_0, hx189_0⟩ (fun hHeld => ?_); refine with_tabW slices_Reverse_int64_int64.tab3 slices_Reverse_int64_int64.bits3 (fun HT_ HW_ => ?_)
        generalize wr.drew = w10 at HO_0 HK HB GG8 HQ11 HQ12 hf8_0 hf9_0 hx188_0 hx189_0 hx8_0 hx9_0 hHeld ⊢
        refine pure_ (i := 0) (N := some 14) (v := ?_) (a' := ?_) #[true, false, false, false, false, false, false, false, false, false, false, false, false, false, false, false] rfl rfl (any_of HT_.out (by kernel_rfl)) (fun _ _ _ h => h) (Or.inl ⟨by rfl, ?_⟩) ?_ ?_
        rotate_left
        ·intro w'
         go_simp
         with_reducible rfl
        rotate_left
        ·simp only [Act.put, List.setIfInBounds_toArray, List.set_cons_zero, List.set_cons_succ, i64_w, i32_w]
         rfl
        refine pure_ (i := 1) (N := some 15) (v := ?_) (a' := ?_) #[true, true, false, false, false, false, false, false, false, false, false, false, false, false, false, false] rfl rfl (any_of HT_.out (by kernel_rfl)) (fun _ _ _ h => h) (Or.inl ⟨by rfl, ?_⟩) ?_ ?_
        rotate_left
        ·intro w'
         go_simp
         with_reducible rfl
        rotate_left
        ·simp only [Act.put, List.setIfInBounds_toArray, List.set_cons_zero, List.set_cons_succ, i64_w, i32_w]
         rfl
        refine pure_ (i := 2) (N := some 16) (v := ?_) (a' := ?_) #[true, true, true, false, false, false, false, false, false, false, false, false, false, false, false, false] rfl rfl (any_of HT_.out (by kernel_rfl)) (fun _ _ _ h => h) (Or.inl ⟨by rfl, ?_⟩) ?_ ?_
        rotate_left
        ·intro w'
         go_simp
         with_reducible rfl
        rotate_left
        ·simp only [Act.put, List.setIfInBounds_toArray, List.set_cons_zero, List.set_cons_succ, i64_w, i32_w]
         rfl
        refine pure_ (i := 3) (N := some 17) (v := ?_) (a' := ?_) #[true, true, true, true, false, false, false, false, false, false, false, false, false, false, false, false] rfl rfl (any_of HT_.out (by kernel_rfl)) (fun _ _ _ h => h) (Or.inl ⟨by rfl, ?_⟩) ?_ ?_
        rotate_left
        ·intro w'
         go_simp
         with_reducible rfl
        rotate_left
        ·simp only [Act.put, List.setIfInBounds_toArray, List.set_cons_zero, List.set_cons_succ, i64_w, i32_w]
         rfl
        refine pure_ (i := 4) (N := some 18) (v := ?_) (a' := ?_) #[true, true, true, true, true, false, false, false, false, false, false, false, false, false, false, false] rfl rfl (any_of HT_.out (by kernel_rfl)) (fun _ _ _ h => h) (Or.inl ⟨by rfl, ?_⟩) ?_ ?_
        rotate_left
        ·intro w'
         go_simp
         with_reducible rfl
        rotate_left
        ·simp only [Act.put, List.setIfInBounds_toArray, List.set_cons_zero, List.set_cons_succ, i64_w, i32_w]
         rfl
        refine pure_ (i := 5) (N := some 19) (v := ?_) (a' := ?_) #[true, true, true, true, true, true, false, false, false, false, false, false, false, false, false, false] rfl rfl (any_of HT_.out (by kernel_rfl)) (fun _ _ _ h => h) (Or.inl ⟨by rfl, ?_⟩) ?_ ?_
        rotate_left
        ·intro w'
         go_simp
         with_reducible rfl
        rotate_left
        ·simp only [Act.put, List.setIfInBounds_toArray, List.set_cons_zero, List.set_cons_succ, i64_w, i32_w]
         rfl
        refine pure_ (i := 6) (N := some 20) (v := ?_) (a' := ?_) #[true, true, true, true, true, true, true, false, false, false, false, false, false, false, false, false] rfl rfl (any_of HT_.out (by kernel_rfl)) (fun _ _ _ h => h) (Or.inl ⟨by rfl, ?_⟩) ?_ ?_
        rotate_left
        ·intro w'
         go_simp
         with_reducible rfl
        rotate_left
        ·simp only [Act.put, List.setIfInBounds_toArray, List.set_cons_zero, List.set_cons_succ, i64_w, i32_w]
         rfl
        refine pure_ (i := 8) (N := some 22) (v := ?_) (a' := ?_) #[true, true, true, true, true, true, true, false, true, false, false, false, false, false, false, false] rfl rfl (any_of HT_.out (by kernel_rfl)) (fun _ _ _ h => h) (Or.inl ⟨by rfl, ?_⟩) ?_ ?_
        rotate_left
        ·intro w'
         go_simp
         with_reducible rfl
        rotate_left
        ·simp only [Act.put, List.setIfInBounds_toArray, List.set_cons_zero, List.set_cons_succ, i64_w, i32_w]
         rfl
        refine pure_ (i := 9) (N := some 23) (v := ?_) (a' := ?_) #[true, true, true, true, true, true, true, false, true, true, false, false, false, false, false, false] rfl rfl (any_of HT_.out (by kernel_rfl)) (fun _ _ _ h => h) (Or.inl ⟨by rfl, ?_⟩) ?_ ?_
        rotate_left
        ·intro w'
         go_simp
         with_reducible rfl
        rotate_left
        ·simp only [Act.put, List.setIfInBounds_toArray, List.set_cons_zero, List.set_cons_succ, i64_w, i32_w]
         rfl
        refine pure_ (i := 10) (N := some 24) (v := ?_) (a' := ?_) #[true, true, true, true, true, true, true, false, true, true, true, false, false, false, false, false] rfl rfl (any_of HT_.out (by kernel_rfl)) (fun _ _ _ h => h) (Or.inl ⟨by rfl, ?_⟩) ?_ ?_
        rotate_left
        ·intro w'
         go_simp
         with_reducible rfl
        rotate_left
        ·simp only [Act.put, List.setIfInBounds_toArray, List.set_cons_zero, List.set_cons_succ, i64_w, i32_w]
         rfl
        refine take_ (i := 7) (N := some 21) (v := ?_) (a' := ?_) #[true, true, true, true, true, true, true, true, true, true, true, false, false, false, false, false] rfl rfl (take_ofW HT_.out HW_.out (by kernel_rfl)) (fun _ _ _ h => h) (Or.inl ⟨by rfl, ?_⟩) hHeld ?_ ?_
        rotate_left
        ·rintro w' ⟨s0, s1⟩
         go_simp
         with_reducible rfl
        rotate_left
        ·simp only [Act.put, List.setIfInBounds_toArray, List.set_cons_zero, List.set_cons_succ, i64_w, i32_w]
         rfl
        refine take_ (i := 11) (N := some 25) (v := ?_) (a' := ?_) #[true, true, true, true, true, true, true, true, true, true, true, true, false, false, false, false] rfl rfl (take_ofW HT_.out HW_.out (by kernel_rfl)) (fun _ _ _ h => h) (Or.inl ⟨by rfl, ?_⟩) hHeld ?_ ?_
        rotate_left
        ·rintro w' ⟨s0, s1⟩
         go_simp
         with_reducible rfl
        rotate_left
        ·simp only [Act.put, List.setIfInBounds_toArray, List.set_cons_zero, List.set_cons_succ, i64_w, i32_w]
         rfl
        refine pure_ (i := 12) (N := some 26) (v := ?_) (a' := ?_) #[true, true, true, true, true, true, true, true, true, true, true, true, true, false, false, false] rfl rfl (any_of HT_.out (by kernel_rfl)) (fun _ _ _ h => h) (Or.inl ⟨by rfl, ?_⟩) ?_ ?_
        rotate_left
        ·intro w'
         go_simp
         with_reducible rfl
        rotate_left
        ·simp only [Act.put, List.setIfInBounds_toArray, List.set_cons_zero, List.set_cons_succ, i64_w, i32_w]
         rfl
        refine last_ (i := 13) (N := none) #[true, true, true, true, true, true, true, true, true, true, true, true, true, true, false, false] rfl rfl (one_of HT_.out (by kernel_rfl)) (by decide) (fun K hK => ?_)
        refine skip_ (w1 := ?_) (by rfl) rfl ?_ ?_
        rotate_left
        ·go_simp
         rfl
        refine hK.out _ _ ?_
        clear hK K
        refine pure_ (i := 14) (N := some 27) (v := ?_) (a' := ?_) #[true, true, true, true, true, true, true, true, true, true, true, true, true, true, true, false] rfl rfl (any_of HT_.out (by kernel_rfl)) (fun _ _ _ h => h) (Or.inl ⟨by rfl, ?_⟩) ?_ ?_
        rotate_left
        ·intro w'
         go_simp
         with_reducible rfl
        rotate_left
        ·simp only [Act.put, List.setIfInBounds_toArray, List.set_cons_zero, List.set_cons_succ, i64_w, i32_w]
         rfl
        refine last_ (i := 15) (N := none) #[true, true, true, true, true, true, true, true, true, true, true, true, true, true, true, true] rfl rfl (one_of HT_.out (by kernel_rfl)) (by decide) (fun K hK => ?_)
        refine skip_ (w1 := ?_) (by rfl) rfl ?_ ?_
        rotate_left
        ·go_simp
         rfl
        refine hK.out _ _ ?_
        clear hK K
        refine done_ (done_of HT_.out (by kernel_rfl)) ?_
        try go_wp2
        (try simp only [← hl0_1])
        go_roundg k1
        case measure => have := HK1.out; omega
        case rel => exact ⟨(y191), (wrap64 (x2_1 + 1)), (wrap64 (x3_1 - 1)), (by first | rfl | (simp; done) | (simp [*]; done)), (by first | rfl | (simp; done) | (simp [*]; done)), H', ⟨by have := HK1.out; omega⟩, ⟨by (try simp only [hl0_1]); (with_reducible repeat (first | apply Kd.R_alloc | apply Kd.R_drewN | apply Kd.R_drew)); exact HQ12.out⟩, ⟨by repeat (first | (with_reducible first | exact HK.out | apply Kept.alloc | apply Kept.drewN | apply Kept.drew | refine Kept.setCell ?_ HMgo8.out _ | refine Kept.setCell ?_ HMgo8.out _) | exact HK.out)⟩, ⟨by repeat (first | (with_reducible first | exact HB.out | apply below_alloc | apply pw_below_drewN | apply below_drew1 | refine below_set ?_ GB8.out | refine below_set ?_ GB8.out) | exact HB.out)⟩⟩
       ·rw [if_neg c7] at H
        exact absurd H (by simp)
      ·rw [if_neg c6] at H
       exact absurd H (by simp)
     ·rw [if_neg c5] at H
      exact absurd H (by simp)
    ·rw [if_neg c4] at H
     exact absurd H (by simp)
   ·rw [if_neg c3] at H
    have c3b0 : decide (x2_1 < x3_1) = false := decide_eq_false c3
    clear c3
    obtain rfl := Option.some.inj H
    go_wp2
    first | go_end0 | ((try simp only [Exit.inBlock, Exit.then]); refine bodyPost_ret (results_none rfl _ _ _) rfl ?_)
    exact ⟨by first | rfl | (simp [*] <;> rfl), (by first | exact (by (with_reducible repeat (first | apply Kd.R_alloc | apply Kd.R_drewN | apply Kd.R_drew)); exact HO_0.out) | (simp only [hl0_1]; exact (by (with_reducible repeat (first | apply Kd.R_alloc | apply Kd.R_drewN | apply Kd.R_drew)); exact HO_0.out))), by repeat (first | (with_reducible first | exact HB.out | apply below_alloc | apply pw_below_drewN | apply below_drew1) | exact HB.out), by repeat (first | (with_reducible first | exact HK.out | apply Kept.alloc | apply Kept.drewN | apply Kept.drew) | exact HK.out)⟩

/-! ### impl_Turned: function 23 -/
mutual
def impl_turn.l0 : Nat → List S44 → List S44 → List Int → Int → Int → Option (List S44 × List Int)
  | 0, _, _, _, _, _ => none
  | k + 1, l0, x2, x8, n, i => if i < n then (if 0 ≤ i then (if i < (x8.length : Int) then ((impl_turn.f k l0 (rd x8 i) x2).bind fun q => (impl_turn.l0 k l0 q.2 (x8.set i.toNat q.1) n (wrap64 (i + 1)))) else none) else none) else some (x2, x8)
def impl_turn.f : Nat → List S44 → Int → List S44 → Option (Int × List S44)
  | 0, _, _, _ => none
  | k + 1, l0, a1, a2 => (if 0 ≤ a1 then (if a1 < (l0.length : Int) then (if (rd_T44 l0 a1).f2.length ≤ 1000000 then ((if (rd_T44 l0 a1).f0 = 2 then slices_Reverse_int64_int64.f k (rd_T44 l0 a1).f2 else some (rd_T44 l0 a1).f2).bind fun ks => ((impl_turn.l0 k l0 a2 ks (ks.length : Int) 0).bind fun q => (if q.1.length < 1000000 then some (wrap64 (((q.1 ++ [(⟨(rd_T44 l0 a1).f0, (rd_T44 l0 a1).f1, q.2, (rd_T44 l0 a1).f3⟩ : S44)]).length : Int) - 1), q.1 ++ [(⟨(rd_T44 l0 a1).f0, (rd_T44 l0 a1).f1, q.2, (rd_T44 l0 a1).f3⟩ : S44)]) else none))) else none) else none) else none)
end
def impl_turn.T11 : Bool × List (List Nat × List Nat) := (true, [([], []), ([], []), ([1], [1]), ([2], [2]), ([], []), ([4], [4]), ([3, 5], [3, 5]), ([0, 0, 1, 2, 3, 4, 5, 6], [0]), ([7, 6, 6, 0, 1, 2, 3, 4, 5, 6], [6, 7])])
def impl_turn.B11 : List Nat := [0, 0, 2, 6, 0, 16, 62, 127, 255]
theorem impl_turn.tab11 : rtab .any (opsOf Try.f48 11) = impl_turn.T11 := by kernel_rfl
theorem impl_turn.bits11 : waitsOk impl_turn.T11.2 impl_turn.B11 = true := by kernel_rfl
set_option maxHeartbeats 16000000 in
set_option maxRecDepth 100000 in
theorem impl_turn.calls (k : Nat) : ∀ (A0 : Option Addr) (c0 : Nat) (l0 : List S44) (a1 : Int) (go : Nat) (uo : Value) (a2 : List S44) (r1 : Int) (r2 : List S44) (P0_ : Nat → Prop) (w0 w : World) (hB : Below w0.heap.size w0 w) (hr0 : Kd.C k44 w0 A0 l0.length l0) (hc0 : l0.length ≤ c0) (hgo : w0.heap.size ≤ go) (hbo : w.heap[go]? = some (.cells #[uo] 25 (0, 0))) (hPg : ∀ k_, P0_ k_ → k_ ≠ go) (ho0 : Kd.S k44 44 w w0.heap.size P0_ uo a2) (h : impl_turn.f k l0 a1 a2 = some (r1, r2)),
    Calls Try.prog 48 #[.slice A0 l0.length c0, .int .i64 a1, .pointer (some ⟨go, 0, none⟩)] w fun e w' => e = .returned (.int .i64 r1) ∧ ∃ v0_ : Value, w'.heap[go]? = some (.cells #[v0_] 25 (0, 0)) ∧ Kd.S k44 44 w' w0.heap.size (fun k_ => (P0_ k_ ∨ w.heap.size ≤ k_) ∧ k_ ≠ go) v0_ r2 ∧ Below w0.heap.size w0 w' ∧ Kept w w' (fun k_ => P0_ k_ ∨ k_ = go) := by
  induction k using Nat.strongRecOn with
  | _ k ih =>
  intro A0 c0 l0 a1 go uo a2 r1 r2 P0_ w0 w hB hr0 hc0 hgo hbo hPg ho0 h
  cases k with
  | zero => exact absurd h (by simp [impl_turn.f])
  | succ k =>
  simp only [impl_turn.f] at h
  have hu44 := Try.underlying44
  have HW0 := Aside0.mk hB.size
  have HR0 := Aside0.mk hr0
  have HC0 := Aside0.mk hc0
  have GO := Aside0.mk hgo
  have GOW := Aside0.mk (blk_lt hbo)
  have HPG := Aside0.mk hPg
  have BO := Aside0.mk hbo
  have HO := Aside0.mk (Kd.S_mono (ok' := (fun k_ => P0_ k_ ∧ k_ < w.heap.size)) (Kd.S_bound ho0) (fun k_ hk => ⟨hk.1, hk.2.2.1⟩))
  have HK := Aside0.mk (Kept.refl w (fun k_ => P0_ k_ ∨ k_ = go))
  have HB := Aside0.mk hB
  clear hB hr0 hc0 ho0 hgo hbo hPg
  by_cases c3 : 0 ≤ a1
  case neg => rw [if_neg c3] at h; cases h
  rw [if_pos c3] at h
  by_cases c4 : a1 < (l0.length : Int)
  case neg => rw [if_neg c4] at h; cases h
  rw [if_pos c4] at h
  by_cases c5 : (rd_T44 l0 a1).f2.length ≤ 1000000
  case neg => rw [if_neg c5] at h; cases h
  rw [if_pos c5] at h
  obtain ⟨ks, hks, h⟩ := Option.bind_eq_some_iff.1 h
  obtain ⟨⟨ro, rk⟩, hloop, hfin⟩ := Option.bind_eq_some_iff.1 h
  clear h
  have H5 := Aside0.mk c5
  have H' := Aside0.mk hloop
  have HF := Aside0.mk hfin
  clear hloop hfin c5
  have c3b0 : decide (0 ≤ a1) = true := decide_eq_true c3
  have c4b0 : decide (a1 < (l0.length : Int)) = true := decide_eq_true c4
  obtain ⟨ad1, A2, c2, e1, hx1_0, hx1_1, hx1_2, hx1_3, hl2, hi2⟩ := at_T44 HR0.out a1 c3 c4
  cases e1
  replace hx1_0 := (HB.out.cell (World.block_lt_of_cell? w0 _ hx1_0)).trans hx1_0
  replace hx1_1 := (HB.out.cell (World.block_lt_of_cell? w0 _ hx1_1)).trans hx1_1
  replace hx1_2 := (HB.out.cell (World.block_lt_of_cell? w0 _ hx1_2)).trans hx1_2
  replace hx1_3 := (HB.out.cell (World.block_lt_of_cell? w0 _ hx1_3)).trans hx1_3
  have HR2 := Aside0.mk hi2
  have HC2 := Aside0.mk hl2
  clear hi2 hl2
  have p1 := eq_true c3
  have q1 := eq_true c4
  clear c3 c4
  by_cases cq : (rd_T44 l0 a1).f0 = 2
  · rw [if_pos cq] at hks
    have cqb0 : ((rd_T44 l0 a1).f0 == 2) = true := beq_iff_eq.mpr cq
    clear cq
    have HKS := Aside0.mk hks
    clear hks
    go_enter Try.func48, Try.ntmps48
    go_wp2_with (first | ((with_reducible refine gate_dst (N := 7) rfl ?_); (try (refine gate_guard (by rfl) ?_; dsimp only)); refine box_event ?hg (N := 7) ?hd (cs := #[.int .i64 0, .string (⟨#[]⟩ : ByteArray), .slice none 0 0, .int .i64 0]) (t := 44) ?hr ?_; (case hd => rfl); (case hg => rfl); (case hr => first | (go_simp; done) | (go_simp; rfl)); intro gb hg w6 hbox hb; have nk_ := Aside0.mk (Kept.below (by repeat (first | (with_reducible first | exact HK.out | apply Kept.alloc | apply Kept.drewN | apply Kept.drew) | exact HK.out)) hb); have nb_ := Aside0.mk (below_step (by repeat (first | (with_reducible first | exact HB.out | apply below_alloc | apply pw_below_drewN | apply below_drew1) | exact HB.out)) hb); have GE : Aside0 (w0.heap.size ≤ gb) := ⟨by rw [hg]; exact (below_size (by repeat (first | (with_reducible first | exact HB.out | apply below_alloc | apply pw_below_drewN | apply below_drew1) | exact HB.out)))⟩; have GW : Aside0 (w.heap.size ≤ gb) := ⟨by rw [hg]; exact turn_ks (by repeat (first | (with_reducible first | exact HK.out | apply Kept.alloc | apply Kept.drewN | apply Kept.drew) | exact HK.out))⟩; have GN : Aside0 (go ≠ gb) := ⟨fun e_ => by have := GW.out; have := GOW.out; omega⟩; have no_ := Aside0.mk (Kd.S_mono (ok := (fun k_ => P0_ k_ ∧ k_ < w.heap.size)) (ok' := (fun k_ => ((P0_ k_ ∨ w.heap.size ≤ k_) ∧ k_ ≠ go) ∧ k_ ≠ gb)) (Kd.S_below (by (with_reducible repeat (first | apply Kd.S_alloc | apply Kd.S_drewN | apply Kd.S_drew)); exact HO.out) hb) (fun k_ hk => ⟨⟨.inl hk.1, HPG.out k_ hk.1⟩, fun e_ => by have := GW.out; have := hk.2; omega⟩)); have no2_ := Aside0.mk (blk_below (g := go) (o := .cells #[uo] 25 (0, 0)) (by (with_reducible repeat (first | refine blk_drewN ?_ _ | refine blk_drew ?_ | refine blk_alloc ?_ _)); exact BO.out) hb); have BK := Aside0.mk hbox; clear hb hbox hg; clear HO HB HK BO; have HO := no_; have HB := nb_; have HK := nk_; have BO := no2_; clear no_ nb_ nk_ no2_; have hcz_0 : w6.cell? ⟨gb, 0, none⟩ = some (.int .i64 0) := (blk_cell BK.out 0).trans rfl; have hcz_1 : w6.cell? ⟨gb, 1, none⟩ = some (.string (⟨#[]⟩ : ByteArray)) := (blk_cell BK.out 1).trans rfl; have hcz_2 : w6.cell? ⟨gb, 2, none⟩ = some (.slice none 0 0) := (blk_cell BK.out 2).trans rfl; have hcz_3 : w6.cell? ⟨gb, 3, none⟩ = some (.int .i64 0) := (blk_cell BK.out 3).trans rfl; have hfz_0 := blk_frozen BK.out 0; have hfz_1 := blk_frozen BK.out 1; have hfz_2 := blk_frozen BK.out 2; have hfz_3 := blk_frozen BK.out 3) | ((with_reducible refine gate_store (t := 44) (p := 7) rfl ?_); refine store_event (t := 44) (p := 7) (v := ?vo) (w1 := ((((w6.setCell ⟨gb, 0, none⟩ (.int .i64 (rd_T44 l0 a1).f0)).setCell ⟨gb, 1, none⟩ (.string (rd_T44 l0 a1).f1)).setCell ⟨gb, 2, none⟩ (.slice A2 (rd_T44 l0 a1).f2.length c2)).setCell ⟨gb, 3, none⟩ (.int .i64 (rd_T44 l0 a1).f3))) ?hg ?ho ?hn ?hr ?_; (case ho => rfl); (case hg => rfl); (case hn => rfl); (case hr => first | (go_simp; done) | (go_simp; rfl)); intro w8 hw; have n0_ : Aside0 (w8.heap[gb]? = some (.cells #[.int .i64 (rd_T44 l0 a1).f0, .string (rd_T44 l0 a1).f1, .slice A2 (rd_T44 l0 a1).f2.length c2, .int .i64 (rd_T44 l0 a1).f3] 44 (0, 0))) := ⟨(by rw [hw]; refine blk_put (cs := #[.int .i64 (rd_T44 l0 a1).f0, .string (rd_T44 l0 a1).f1, .slice A2 (rd_T44 l0 a1).f2.length c2, .int .i64 0]) ?_ 3 _ rfl; refine blk_put (cs := #[.int .i64 (rd_T44 l0 a1).f0, .string (rd_T44 l0 a1).f1, .slice none 0 0, .int .i64 0]) ?_ 2 _ rfl; refine blk_put (cs := #[.int .i64 (rd_T44 l0 a1).f0, .string (⟨#[]⟩ : ByteArray), .slice none 0 0, .int .i64 0]) ?_ 1 _ rfl; refine blk_put (cs := #[.int .i64 0, .string (⟨#[]⟩ : ByteArray), .slice none 0 0, .int .i64 0]) ?_ 0 _ rfl; exact (by (with_reducible repeat (first | refine blk_drewN ?_ _ | refine blk_drew ?_ | refine blk_alloc ?_ _)); exact BK.out))⟩; have nb_ : Aside0 (Below w0.heap.size w0 w8) := ⟨by rw [hw]; exact below_set (below_set (below_set (below_set HB.out GE.out) GE.out) GE.out) GE.out⟩; have nk_ : Aside0 (Kept w w8 (fun k_ => P0_ k_ ∨ k_ = go)) := ⟨by rw [hw]; exact Kept.setCell (Kept.setCell (Kept.setCell (Kept.setCell HK.out (.inr GW.out) _) (.inr GW.out) _) (.inr GW.out) _) (.inr GW.out) _⟩; have no_ : Aside0 (Kd.S k44 44 w8 w0.heap.size (fun k_ => ((P0_ k_ ∨ w.heap.size ≤ k_) ∧ k_ ≠ go) ∧ k_ ≠ gb) uo a2) := ⟨by rw [hw]; exact Kd.S_far (Kd.S_far (Kd.S_far (Kd.S_far HO.out (p := ⟨gb, 0, none⟩) (fun k_ hk => hk.2) _) (p := ⟨gb, 1, none⟩) (fun k_ hk => hk.2) _) (p := ⟨gb, 2, none⟩) (fun k_ hk => hk.2) _) (p := ⟨gb, 3, none⟩) (fun k_ hk => hk.2) _⟩; have no2_ : Aside0 (w8.heap[go]? = some (.cells #[uo] 25 (0, 0))) := ⟨by rw [hw]; exact blk_far (blk_far (blk_far (blk_far BO.out (p := ⟨gb, 0, none⟩) GN.out _) (p := ⟨gb, 1, none⟩) GN.out _) (p := ⟨gb, 2, none⟩) GN.out _) (p := ⟨gb, 3, none⟩) GN.out _⟩; clear hw hcz_0 hcz_1 hcz_2 hcz_3 hfz_0 hfz_1 hfz_2 hfz_3; clear BK HO HB HK BO; have BK := n0_; have HO := no_; have HB := nb_; have HK := nk_; have BO := no2_; clear n0_ no_ nb_ nk_ no2_; have hcz_0 : w8.cell? ⟨gb, 0, none⟩ = some (.int .i64 (rd_T44 l0 a1).f0) := (blk_cell BK.out 0).trans rfl; have hcz_1 : w8.cell? ⟨gb, 1, none⟩ = some (.string (rd_T44 l0 a1).f1) := (blk_cell BK.out 1).trans rfl; have hcz_2 : w8.cell? ⟨gb, 2, none⟩ = some (.slice A2 (rd_T44 l0 a1).f2.length c2) := (blk_cell BK.out 2).trans rfl; have hcz_3 : w8.cell? ⟨gb, 3, none⟩ = some (.int .i64 (rd_T44 l0 a1).f3) := (blk_cell BK.out 3).trans rfl; have hfz_0 := blk_frozen BK.out 0; have hfz_1 := blk_frozen BK.out 1; have hfz_2 := blk_frozen BK.out 2; have hfz_3 := blk_frozen BK.out 3) | ((with_reducible refine gate_callee (f := 66) rfl ?_); refine goesL_ (some 16) rfl rfl Try.func66 (by kernel_rfl) rfl #[.slice A2 (rd_T44 l0 a1).f2.length c2] rfl (by (try simp only [List.map_toArray, List.map_cons, List.map_nil]); first | done | rfl | (simp only [List.length_drop, List.length_take]; rfl)) ?_; (with_reducible refine (slices_Clone_int64_int64.calls A2 c2 (rd_T44 l0 a1).f2 _ ?side1 H5.out).mono ?_); (case side1 => exact Kd.C_below HR2.out (by repeat (first | (with_reducible first | exact HB.out | apply below_alloc | apply pw_below_drewN | apply below_drew1) | exact HB.out))); rintro e w9 ⟨v8, rfl, ho, hb⟩; refine ⟨_, rfl, ?_⟩; obtain ⟨A8, c8, rfl⟩ := Kd.R_slice ho; have nl_ := Aside0.mk (Kd.R_lower (Kd.R_mono (ok' := fun k_ => w.heap.size ≤ k_) (Kd.R_bound ho) (fun k_ hk => Nat.le_trans (turn_ks (by repeat (first | (with_reducible first | exact HK.out | apply Kept.alloc | apply Kept.drewN | apply Kept.drew) | exact HK.out))) hk.2.1)) (below_size (by repeat (first | (with_reducible first | exact HB.out | apply below_alloc | apply pw_below_drewN | apply below_drew1) | exact HB.out)))); have no_ := Aside0.mk (Kd.S_elder' (by (with_reducible repeat (first | apply Kd.S_alloc | apply Kd.S_drewN | apply Kd.S_drew)); exact HO.out) (Kd.R_base ho) hb); have n0_ := Aside0.mk (blk_below (g := gb) (o := .cells #[.int .i64 (rd_T44 l0 a1).f0, .string (rd_T44 l0 a1).f1, .slice A2 (rd_T44 l0 a1).f2.length c2, .int .i64 (rd_T44 l0 a1).f3] 44 (0, 0)) (by (with_reducible repeat (first | refine blk_drewN ?_ _ | refine blk_drew ?_ | refine blk_alloc ?_ _)); exact BK.out) hb); have no2_ := Aside0.mk (blk_below (g := go) (o := .cells #[uo] 25 (0, 0)) (by (with_reducible repeat (first | refine blk_drewN ?_ _ | refine blk_drew ?_ | refine blk_alloc ?_ _)); exact BO.out) hb); have nk_ := Aside0.mk (Kept.below (by repeat (first | (with_reducible first | exact HK.out | apply Kept.alloc | apply Kept.drewN | apply Kept.drew) | exact HK.out)) hb); have nb_ := Aside0.mk (below_step (by repeat (first | (with_reducible first | exact HB.out | apply below_alloc | apply pw_below_drewN | apply below_drew1) | exact HB.out)) hb); clear ho hb; clear hcz_0 hcz_1 hcz_2 hcz_3 hfz_0 hfz_1 hfz_2 hfz_3; clear BK HO HB HK BO; have BK := n0_; have HO := no_; have HB := nb_; have HK := nk_; have BO := no2_; have HL := nl_; clear n0_ no_ nb_ nk_ no2_ nl_; have hcz_0 : w9.cell? ⟨gb, 0, none⟩ = some (.int .i64 (rd_T44 l0 a1).f0) := (blk_cell BK.out 0).trans rfl; have hcz_1 : w9.cell? ⟨gb, 1, none⟩ = some (.string (rd_T44 l0 a1).f1) := (blk_cell BK.out 1).trans rfl; have hcz_2 : w9.cell? ⟨gb, 2, none⟩ = some (.slice A2 (rd_T44 l0 a1).f2.length c2) := (blk_cell BK.out 2).trans rfl; have hcz_3 : w9.cell? ⟨gb, 3, none⟩ = some (.int .i64 (rd_T44 l0 a1).f3) := (blk_cell BK.out 3).trans rfl; have hfz_0 := blk_frozen BK.out 0; have hfz_1 := blk_frozen BK.out 1; have hfz_2 := blk_frozen BK.out 2; have hfz_3 := blk_frozen BK.out 3) | ((with_reducible refine gate_callee (f := 71) rfl ?_); refine goesL_ (some 21) rfl rfl Try.func71 (by kernel_rfl) rfl #[(.slice A8 (rd_T44 l0 a1).f2.length c8)] rfl (by (try simp only [List.map_toArray, List.map_cons, List.map_nil]); first | done | rfl | (simp only [List.length_drop, List.length_take]; rfl)) ?_; (with_reducible refine (slices_Reverse_int64_int64.calls k (fun k_ => some k_ = ((.slice A8 (rd_T44 l0 a1).f2.length c8) : Value).ownBlock) (.slice A8 (rd_T44 l0 a1).f2.length c8) (rd_T44 l0 a1).f2 ks w0 _ ?side1 ?side2 HKS.out).mono ?_); (case side1 => exact (by repeat (first | (with_reducible first | exact HB.out | apply below_alloc | apply pw_below_drewN | apply below_drew1) | exact HB.out))); (case side2 => exact Kd.R_tight rfl (by (with_reducible repeat (first | apply Kd.R_alloc | apply Kd.R_drewN | apply Kd.R_drew)); exact HL.out)); rintro e w10 ⟨rfl, ho, hb, hkp⟩; refine ⟨_, rfl, ?_⟩; have nl_ := Aside0.mk (Kd.R_reok (ok := fun k_ => w.heap.size ≤ k_) rfl ho (fun k_ hk => HL.out.1 k_ hk)); have no_ := Aside0.mk (Kd.S_kept (ok := (fun k_ => (((P0_ k_ ∨ w.heap.size ≤ k_) ∧ k_ ≠ go) ∧ k_ ≠ gb) ∧ some k_ ≠ ((.slice A8 (rd_T44 l0 a1).f2.length c8) : Value).ownBlock)) (by (with_reducible repeat (first | apply Kd.S_alloc | apply Kd.S_drewN | apply Kd.S_drew)); exact HO.out) hkp (fun k_ hk hs_ => hk.2 hs_)); have n0_ := Aside0.mk (blk_kept (g := gb) (o := .cells #[.int .i64 (rd_T44 l0 a1).f0, .string (rd_T44 l0 a1).f1, .slice A2 (rd_T44 l0 a1).f2.length c2, .int .i64 (rd_T44 l0 a1).f3] 44 (0, 0)) (by (with_reducible repeat (first | refine blk_drewN ?_ _ | refine blk_drew ?_ | refine blk_alloc ?_ _)); exact BK.out) hkp (fun hs_ => Kd.R_ne HL.out BK.out (by decide) hs_)); have no2_ := Aside0.mk (blk_kept (g := go) (o := .cells #[uo] 25 (0, 0)) (by (with_reducible repeat (first | refine blk_drewN ?_ _ | refine blk_drew ?_ | refine blk_alloc ?_ _)); exact BO.out) hkp (fun hs_ => Kd.R_ne HL.out BO.out (by decide) hs_)); have nk_ := Aside0.mk (Kept.then_ (by repeat (first | (with_reducible first | exact HK.out | apply Kept.alloc | apply Kept.drewN | apply Kept.drew) | exact HK.out)) hkp (fun k_ hk => .inr (HL.out.1 k_ hk.symm))); have nb_ := Aside0.mk hb; clear ho hb hkp; clear BK HO HB HK BO HL; have BK := n0_; have HO := no_; have HB := nb_; have HK := nk_; have BO := no2_; have HL := nl_; clear n0_ no_ nb_ nk_ no2_ nl_))
    have hlen := (Kd.R_reads' HL.out).1
    rw [hlen] at HL HO ⊢
    clear hlen
    try clear hcz_0 hcz_1 hcz_2 hcz_3 hfz_0 hfz_1 hfz_2 hfz_3
    go_loopg [24] k (fun kq v24 w' => ∃ (u2 : Value) (x2 : List S44) (x8 : List Int) (x24 : Int), v24 = .int .i64 x24 ∧ Aside0 (impl_turn.l0 kq l0 x2 x8 (ks.length : Int) x24 = some (ro, rk)) ∧ Aside0 (kq ≤ k) ∧ Aside0 (x8.length = ks.length) ∧ Aside0 (w'.heap[go]? = some (.cells #[u2] 25 (0, 0))) ∧ Aside0 (Kd.S k44 44 w' w0.heap.size (fun k_ => (((P0_ k_ ∨ w.heap.size ≤ k_) ∧ k_ ≠ go) ∧ k_ ≠ gb) ∧ some k_ ≠ ((.slice A8 ks.length c8) : Value).ownBlock) u2 x2) ∧ Aside0 (Kd.R (Kd.int .i64) 2 w' w0.heap.size (fun k_ => w.heap.size ≤ k_) (.slice A8 ks.length c8) x8) ∧ Aside0 (w'.heap[gb]? = some (.cells #[.int .i64 (rd_T44 l0 a1).f0, .string (rd_T44 l0 a1).f1, .slice A2 (rd_T44 l0 a1).f2.length c2, .int .i64 (rd_T44 l0 a1).f3] 44 (0, 0))) ∧ Aside0 (Kept w w' (fun k_ => P0_ k_ ∨ k_ = go)) ∧ Aside0 (Below w0.heap.size w0 w'))
    case atStart => exact ⟨uo, a2, ks, 0, (by first | rfl | (simp; done) | (simp [*]; done)), H', ⟨Nat.le_refl _⟩, ⟨rfl⟩, ⟨(by (with_reducible repeat (first | refine blk_drewN ?_ _ | refine blk_drew ?_ | refine blk_alloc ?_ _)); exact BO.out)⟩, ⟨(by (with_reducible repeat (first | apply Kd.S_alloc | apply Kd.S_drewN | apply Kd.S_drew)); exact HO.out)⟩, ⟨(by (with_reducible repeat (first | apply Kd.R_alloc | apply Kd.R_drewN | apply Kd.R_drew)); exact HL.out)⟩, ⟨(by (with_reducible repeat (first | refine blk_drewN ?_ _ | refine blk_drew ?_ | refine blk_alloc ?_ _)); exact BK.out)⟩, ⟨(by repeat (first | (with_reducible first | exact HK.out | apply Kept.alloc | apply Kept.drewN | apply Kept.drew) | exact HK.out))⟩, ⟨(by repeat (first | (with_reducible first | exact HB.out | apply below_alloc | apply pw_below_drewN | apply below_drew1) | exact HB.out))⟩⟩
    case round =>
      clear H' HO HK HB HL BK BO
      obtain ⟨u2, x2, x8, x24, rfl, HA, HK1, HLN, BO, HO, HL, BK, HK, HB⟩ := hrel
      cases gk with
      | zero => exact absurd HA.out (by simp [impl_turn.l0])
      | succ k1 =>
        have H := HA.out
        clear HA
        rw [impl_turn.l0] at H
        have hcz_0 : wr.cell? ⟨gb, 0, none⟩ = some (.int .i64 (rd_T44 l0 a1).f0) := (blk_cell BK.out 0).trans rfl
        have hcz_1 : wr.cell? ⟨gb, 1, none⟩ = some (.string (rd_T44 l0 a1).f1) := (blk_cell BK.out 1).trans rfl
        have hcz_2 : wr.cell? ⟨gb, 2, none⟩ = some (.slice A2 (rd_T44 l0 a1).f2.length c2) := (blk_cell BK.out 2).trans rfl
        have hcz_3 : wr.cell? ⟨gb, 3, none⟩ = some (.int .i64 (rd_T44 l0 a1).f3) := (blk_cell BK.out 3).trans rfl
        have hfz_0 := blk_frozen BK.out 0
        have hfz_1 := blk_frozen BK.out 1
        have hfz_2 := blk_frozen BK.out 2
        have hfz_3 := blk_frozen BK.out 3
        have hgo_ : wr.cell? ⟨go, 0, none⟩ = some u2 := (blk_cell BO.out 0).trans rfl
        have hfo_ := blk_frozen BO.out 0
        by_cases hi : x24 < (ks.length : Int)
        · rw [if_pos hi] at H
          by_cases h3 : 0 ≤ x24
          case neg => rw [if_neg h3] at H; cases H
          rw [if_pos h3] at H
          by_cases h4 : x24 < (x8.length : Int)
          case neg => rw [if_neg h4] at H; cases H
          rw [if_pos h4] at H
          obtain ⟨⟨n1, o1⟩, hc, H⟩ := Option.bind_eq_some_iff.1 H
          obtain ⟨y8, hy8⟩ : ∃ y_ : List Int, y_ = x8.set x24.toNat n1 := ⟨_, rfl⟩
          have HC_ := Aside0.mk hc
          have H' := Aside0.mk H
          have c7b0 : decide (x24 < (ks.length : Int)) = true := decide_eq_true hi
          clear hc H
          obtain ⟨g8, cap8, e8, gb8, _, _⟩ := Kd.R_form HL.out (by omega)
          injection e8 with ea_ en_ ec_
          subst ea_
          clear en_ ec_
          have hx8 : wr.cell? ⟨g8, x24.toNat, none⟩ = some (.int .i64 (rd x8 x24)) := (Kd.R_celln 0 HL.out x24 h3 hi).1
          have GE8 := Aside0.mk gb8
          have GW8 : Aside0 (w.heap.size ≤ g8) := ⟨HL.out.1 g8 (by simp [Value.ownBlock])⟩
          have NG8 : Aside0 (gb ≠ g8) := ⟨fun e_ => Kd.R_ne HL.out BK.out (by decide) (by rw [e_]; simp [Value.ownBlock])⟩
          have NO8 : Aside0 (go ≠ g8) := ⟨fun e_ => Kd.R_ne HL.out BO.out (by decide) (by rw [e_]; simp [Value.ownBlock])⟩
          have HI := Aside0.mk (And.intro h3 hi)
          have NY8 := Aside0.mk hy8
          have p8 := eq_true h3
          have q8 := eq_true hi
          clear h3 h4 hi gb8 hy8
          go_wp2_with (first | ((with_reducible refine gate_callee (f := 48) rfl ?_); refine goesL_ (some 35) rfl rfl Try.func48 (by kernel_rfl) rfl #[.slice (some ad1) l0.length c0, .int .i64 (rd x8 x24), .pointer (some ⟨go, 0, none⟩)] rfl (by (try simp only [List.map_toArray, List.map_cons, List.map_nil]); first | done | rfl | (simp only [List.length_drop, List.length_take]; rfl)) ?_; (with_reducible refine (ih k1 ?sideL (some ad1) c0 l0 (rd x8 x24) go u2 x2 n1 o1 (fun k_ => (((P0_ k_ ∨ w.heap.size ≤ k_) ∧ k_ ≠ go) ∧ k_ ≠ gb) ∧ some k_ ≠ ((.slice (some ⟨g8, 0, none⟩) ks.length c8) : Value).ownBlock) w0 _ ?side1 HR0.out HC0.out GO.out ?side2 (fun k_ hk => hk.1.1.2) ?side3 HC_.out).mono ?_); (case sideL => have := HK1.out; omega); (case side1 => exact (by repeat (first | (with_reducible first | exact HB.out | apply below_alloc | apply pw_below_drewN | apply below_drew1) | exact HB.out))); (case side2 => exact (by (with_reducible repeat (first | refine blk_drewN ?_ _ | refine blk_drew ?_ | refine blk_alloc ?_ _)); exact BO.out)); (case side3 => exact (by (with_reducible repeat (first | apply Kd.S_alloc | apply Kd.S_drewN | apply Kd.S_drew)); exact HO.out)); rintro e w10 ⟨rfl, u5, hbo, ho, hb, hkp⟩; refine ⟨_, rfl, ?_⟩; have n0_ := Aside0.mk (blk_kept (g := gb) (o := .cells #[.int .i64 (rd_T44 l0 a1).f0, .string (rd_T44 l0 a1).f1, .slice A2 (rd_T44 l0 a1).f2.length c2, .int .i64 (rd_T44 l0 a1).f3] 44 (0, 0)) (by (with_reducible repeat (first | refine blk_drewN ?_ _ | refine blk_drew ?_ | refine blk_alloc ?_ _)); exact BK.out) hkp (fun hs_ => hs_.elim (fun h_ => h_.1.2 rfl) (fun h_ => GN.out h_.symm))); have hl8 : g8 < wr.heap.size := Kd.R_lt HL.out g8 (by simp [Value.ownBlock]); have hl9 := blk_lt BK.out; have no_ := Aside0.mk (Kd.S_mono (ok' := (fun k_ => (((P0_ k_ ∨ w.heap.size ≤ k_) ∧ k_ ≠ go) ∧ k_ ≠ gb) ∧ some k_ ≠ ((.slice (some ⟨g8, 0, none⟩) ks.length c8) : Value).ownBlock)) ho (fun k_ hk => hk.1.elim id (fun hge => ⟨⟨⟨.inr (Nat.le_trans (turn_ks (by repeat (first | (with_reducible first | exact HK.out | apply Kept.alloc | apply Kept.drewN | apply Kept.drew) | exact HK.out))) hge), hk.2⟩, fun e_ => Nat.lt_irrefl _ (Nat.lt_of_lt_of_le (e_ ▸ hl9) hge)⟩, fun e_ => by obtain rfl : k_ = g8 := (by simpa [Value.ownBlock] using e_); exact Nat.lt_irrefl _ (Nat.lt_of_lt_of_le hl8 hge)⟩))); have nl_ := Aside0.mk (Kd.R_mono (ok' := fun k_ => w.heap.size ≤ k_) (Kd.R_kept (Kd.R_tight2 rfl (by (with_reducible repeat (first | apply Kd.R_alloc | apply Kd.R_drewN | apply Kd.R_drew)); exact HL.out)) hkp (fun k_ hk hs_ => hs_.elim (fun h_ => h_.2 hk.1) (fun h_ => NO8.out (by rw [← h_]; simpa [Value.ownBlock] using hk.1)))) (fun k_ hk => hk.2)); have nk_ := Aside0.mk (Kept.then_ (by repeat (first | (with_reducible first | exact HK.out | apply Kept.alloc | apply Kept.drewN | apply Kept.drew) | exact HK.out)) hkp (fun k_ hk => show (P0_ k_ ∨ k_ = go) ∨ w.heap.size ≤ k_ from by rcases hk with h_ | h_; (rcases h_.1.1.1 with p_ | p_; exact Or.inl (Or.inl p_); exact Or.inr p_); exact Or.inl (Or.inr h_))); have nb_ := Aside0.mk hb; have no2_ := Aside0.mk hbo; clear ho hb hkp hbo hl8 hl9; clear BK HO HB HK HL BO; have BK := n0_; have HO := no_; have HB := nb_; have HK := nk_; have HL := nl_; have BO := no2_; clear n0_ no_ nb_ nk_ nl_ no2_; obtain ⟨hx9, hf9⟩ := Kd.R_celln 0 HL.out x24 HI.out.1 HI.out.2; have HQ := Aside0.mk (Kd.R_putn HL.out x24 n1)) | ((with_reducible refine gate_store (t := 2) (p := 36) rfl ?_); refine store_event (t := 2) (p := 36) (v := ?vo36) (w1 := (w10.setCell ⟨g8, x24.toNat, none⟩ (.int .i64 n1))) ?hg ?ho ?hn ?hr ?_; (case ho => rfl); (case hg => rfl); (case hn => rfl); (case hr => first | (go_simp; done) | (go_simp; rfl)); intro w11 hw; have nl_ : Aside0 (Kd.R (Kd.int .i64) 2 w11 w0.heap.size (fun k_ => w.heap.size ≤ k_) (.slice (some ⟨g8, 0, none⟩) ks.length c8) y8) := ⟨by rw [hw, NY8.out]; exact HQ.out⟩; have n0_ : Aside0 (w11.heap[gb]? = some (.cells #[.int .i64 (rd_T44 l0 a1).f0, .string (rd_T44 l0 a1).f1, .slice A2 (rd_T44 l0 a1).f2.length c2, .int .i64 (rd_T44 l0 a1).f3] 44 (0, 0))) := ⟨by rw [hw]; exact blk_far BK.out (p := ⟨g8, x24.toNat, none⟩) NG8.out _⟩; have no2_ : Aside0 (w11.heap[go]? = some (.cells #[u5] 25 (0, 0))) := ⟨by rw [hw]; exact blk_far BO.out (p := ⟨g8, x24.toNat, none⟩) NO8.out _⟩; have no_ : Aside0 (Kd.S k44 44 w11 w0.heap.size (fun k_ => (((P0_ k_ ∨ w.heap.size ≤ k_) ∧ k_ ≠ go) ∧ k_ ≠ gb) ∧ some k_ ≠ ((.slice (some ⟨g8, 0, none⟩) ks.length c8) : Value).ownBlock) u5 o1) := ⟨by rw [hw]; exact Kd.S_far HO.out (p := ⟨g8, x24.toNat, none⟩) (fun k_ hk e_ => hk.2 (by rw [e_]; simp [Value.ownBlock])) _⟩; have nk_ : Aside0 (Kept w w11 (fun k_ => P0_ k_ ∨ k_ = go)) := ⟨by rw [hw]; exact Kept.setCell HK.out (.inr GW8.out) _⟩; have nb_ : Aside0 (Below w0.heap.size w0 w11) := ⟨by rw [hw]; exact below_set HB.out GE8.out⟩; clear hw HQ hx9 hf9; clear BK HO HB HK HL BO; have BK := n0_; have HO := no_; have HB := nb_; have HK := nk_; have HL := nl_; have BO := no2_; clear n0_ no_ nb_ nk_ nl_ no2_))
          go_roundg k1
          case measure => have := HK1.out; omega
          case rel => exact ⟨u5, o1, y8, wrap64 (x24 + 1), (by first | rfl | (simp; done) | (simp [*]; done)), ⟨by rw [NY8.out]; exact H'.out⟩, ⟨by have := HK1.out; omega⟩, ⟨by rw [NY8.out, List.length_set]; exact HLN.out⟩, ⟨(by (with_reducible repeat (first | refine blk_drewN ?_ _ | refine blk_drew ?_ | refine blk_alloc ?_ _)); exact BO.out)⟩, ⟨(by (with_reducible repeat (first | apply Kd.S_alloc | apply Kd.S_drewN | apply Kd.S_drew)); exact HO.out)⟩, ⟨(by (with_reducible repeat (first | apply Kd.R_alloc | apply Kd.R_drewN | apply Kd.R_drew)); exact HL.out)⟩, ⟨(by (with_reducible repeat (first | refine blk_drewN ?_ _ | refine blk_drew ?_ | refine blk_alloc ?_ _)); exact BK.out)⟩, ⟨(by repeat (first | (with_reducible first | exact HK.out | apply Kept.alloc | apply Kept.drewN | apply Kept.drew) | exact HK.out))⟩, ⟨(by repeat (first | (with_reducible first | exact HB.out | apply below_alloc | apply pw_below_drewN | apply below_drew1) | exact HB.out))⟩⟩
        · rw [if_neg hi] at H
          have c7b0 : decide (x24 < (ks.length : Int)) = false := decide_eq_false hi
          clear hi
          obtain ⟨rfl, rfl⟩ : x2 = ro ∧ x8 = rk := by simpa using H
          clear H
          have hf := HF.out
          by_cases h6 : x2.length < 1000000
          case neg => rw [if_neg h6] at hf; cases hf
          rw [if_pos h6] at hf
          obtain ⟨y2, hy2⟩ : ∃ y_ : List S44, y_ = x2 ++ [(⟨(rd_T44 l0 a1).f0, (rd_T44 l0 a1).f1, x8, (rd_T44 l0 a1).f3⟩ : S44)] := ⟨_, rfl⟩
          simp only [← hy2, Option.some.injEq, Prod.mk.injEq] at hf
          obtain ⟨hr1, hr2⟩ := hf
          subst hr1
          subst hr2
          have H6 := Aside0.mk h6
          have NY2 := Aside0.mk hy2
          clear h6 HF hy2
          go_upto_region 11 with (first | ((with_reducible refine gate_store (t := 41) (p := 39) rfl ?_); refine store_event (t := 41) (p := 39) (v := ?vo39) (w1 := (wr.setCell ⟨gb, 2, none⟩ (.slice A8 ks.length c8))) ?hg ?ho ?hn ?hr ?_; (case ho => rfl); (case hg => rfl); (case hn => rfl); (case hr => first | (go_simp; done) | (go_simp; rfl)); intro w11 hw; have nl_ : Aside0 (Kd.R (Kd.int .i64) 2 w11 w0.heap.size (fun k_ => w.heap.size ≤ k_) (.slice A8 ks.length c8) x8) := ⟨by rw [hw]; exact Kd.R_mono (Kd.R_far (Kd.R_tight2 rfl HL.out) (p := ⟨gb, 2, none⟩) (fun k_ hk e_ => Kd.R_ne HL.out BK.out (by decide) (by have e2 : k_ = gb := e_; rw [← e2]; exact hk.1)) _) (fun k_ hk => hk.2)⟩; have n0_ : Aside0 (w11.heap[gb]? = some (.cells #[.int .i64 (rd_T44 l0 a1).f0, .string (rd_T44 l0 a1).f1, .slice A8 ks.length c8, .int .i64 (rd_T44 l0 a1).f3] 44 (0, 0))) := ⟨by rw [hw]; exact blk_put BK.out 2 _ rfl⟩; have no2_ : Aside0 (w11.heap[go]? = some (.cells #[u2] 25 (0, 0))) := ⟨by rw [hw]; exact blk_far BO.out (p := ⟨gb, 2, none⟩) GN.out _⟩; have no_ : Aside0 (Kd.S k44 44 w11 w0.heap.size (fun k_ => (((P0_ k_ ∨ w.heap.size ≤ k_) ∧ k_ ≠ go) ∧ k_ ≠ gb) ∧ some k_ ≠ ((.slice A8 ks.length c8) : Value).ownBlock) u2 x2) := ⟨by rw [hw]; exact Kd.S_far HO.out (p := ⟨gb, 2, none⟩) (fun k_ hk => hk.1.2) _⟩; have nk_ : Aside0 (Kept w w11 (fun k_ => P0_ k_ ∨ k_ = go)) := ⟨by rw [hw]; exact Kept.setCell HK.out (.inr GW.out) _⟩; have nb_ : Aside0 (Below w0.heap.size w0 w11) := ⟨by rw [hw]; exact below_set HB.out GE.out⟩; clear hw hcz_0 hcz_1 hcz_2 hcz_3 hfz_0 hfz_1 hfz_2 hfz_3 hgo_ hfo_; clear BK HO HB HK HL BO; have BK := n0_; have HO := no_; have HB := nb_; have HK := nk_; have HL := nl_; have BO := no2_; clear n0_ no_ nb_ nk_ nl_ no2_; have hcz_0 : w11.cell? ⟨gb, 0, none⟩ = some (.int .i64 (rd_T44 l0 a1).f0) := (blk_cell BK.out 0).trans rfl; have hcz_1 : w11.cell? ⟨gb, 1, none⟩ = some (.string (rd_T44 l0 a1).f1) := (blk_cell BK.out 1).trans rfl; have hcz_2 : w11.cell? ⟨gb, 2, none⟩ = some (.slice A8 ks.length c8) := (blk_cell BK.out 2).trans rfl; have hcz_3 : w11.cell? ⟨gb, 3, none⟩ = some (.int .i64 (rd_T44 l0 a1).f3) := (blk_cell BK.out 3).trans rfl; have hfz_0 := blk_frozen BK.out 0; have hfz_1 := blk_frozen BK.out 1; have hfz_2 := blk_frozen BK.out 2; have hfz_3 := blk_frozen BK.out 3; have hgo_ : w11.cell? ⟨go, 0, none⟩ = some u2 := (blk_cell BO.out 0).trans rfl; have hfo_ := blk_frozen BO.out 0))
          have nHL_ := Aside0.mk (Kd.R_drew HL.out)
          have nHO_ := Aside0.mk (Kd.S_drew HO.out)
          have nHK_ := Aside0.mk (Kept.drew HK.out)
          have nHB_ := Aside0.mk (below_drew1 HB.out)
          have nBK_ := Aside0.mk (blk_drew BK.out)
          have nBO_ := Aside0.mk (blk_drew BO.out)
          clear HL HO HK HB BK BO hcz_0 hcz_1 hcz_2 hcz_3 hfz_0 hfz_1 hfz_2 hfz_3 hgo_ hfo_
          have HL := nHL_
          have HO := nHO_
          have HK := nHK_
          have HB := nHB_
          have BK := nBK_
          have BO := nBO_
          clear nHL_ nHO_ nHK_ nHB_ nBK_ nBO_
          have hgo_ : w11.drew.cell? ⟨go, 0, none⟩ = some u2 := (blk_cell BO.out 0).trans rfl
          have hcz_0 : w11.drew.cell? ⟨gb, 0, none⟩ = some (.int .i64 (rd_T44 l0 a1).f0) := (blk_cell BK.out 0).trans rfl
          have hcz_1 : w11.drew.cell? ⟨gb, 1, none⟩ = some (.string (rd_T44 l0 a1).f1) := (blk_cell BK.out 1).trans rfl
          have hcz_2 : w11.drew.cell? ⟨gb, 2, none⟩ = some (.slice A8 ks.length c8) := (blk_cell BK.out 2).trans rfl
          have hcz_3 : w11.drew.cell? ⟨gb, 3, none⟩ = some (.int .i64 (rd_T44 l0 a1).f3) := (blk_cell BK.out 3).trans rfl
          refine start_ (n := 9) (S := fun w' => w'.cell? ⟨go, 0, none⟩ = some u2 ∧ w'.cell? ⟨gb, 0, none⟩ = some (.int .i64 (rd_T44 l0 a1).f0) ∧ w'.cell? ⟨gb, 1, none⟩ = some (.string (rd_T44 l0 a1).f1) ∧ w'.cell? ⟨gb, 2, none⟩ = some (.slice A8 ks.length c8) ∧ w'.cell? ⟨gb, 3, none⟩ = some (.int .i64 (rd_T44 l0 a1).f3)) (ds := [6, 8]) #[false, false, false, false, false, false, false, false, false] (by kernel_rfl) rfl rfl ⟨hgo_, hcz_0, hcz_1, hcz_2, hcz_3⟩ (fun hHeld => ?_)
          refine with_tabW impl_turn.tab11 impl_turn.bits11 (fun HT_ HW_ => ?_)
          generalize w11.drew = w12 at HO HL HK HB BK BO hgo_ hcz_0 hcz_1 hcz_2 hcz_3 hHeld ⊢
          refine pure_ (i := 0) (N := some 40) (v := ?_) (a' := ?_) #[true, false, false, false, false, false, false, false, false] rfl rfl (any_of HT_.out (by kernel_rfl)) (fun _ _ _ h => h) (Or.inl ⟨by rfl, ?_⟩) ?_ ?_
          rotate_left
          ·intro w'
           go_simp
           with_reducible rfl
          rotate_left
          ·simp only [Act.put, List.setIfInBounds_toArray, List.set_cons_zero, List.set_cons_succ, i64_w, i32_w]
           rfl
          refine pure_ (i := 1) (N := some 41) (v := ?_) (a' := ?_) #[true, true, false, false, false, false, false, false, false] rfl rfl (any_of HT_.out (by kernel_rfl)) (fun _ _ _ h => h) (Or.inl ⟨by rfl, ?_⟩) ?_ ?_
          rotate_left
          ·intro w'
           go_simp
           with_reducible rfl
          rotate_left
          ·simp only [Act.put, List.setIfInBounds_toArray, List.set_cons_zero, List.set_cons_succ, i64_w, i32_w]
           rfl
          refine pure_ (i := 2) (N := some 42) (v := ?_) (a' := ?_) #[true, true, true, false, false, false, false, false, false] rfl rfl (any_of HT_.out (by kernel_rfl)) (fun _ _ _ h => h) (Or.inl ⟨by rfl, ?_⟩) ?_ ?_
          rotate_left
          ·intro w'
           go_simp
           with_reducible rfl
          rotate_left
          ·simp only [Act.put, List.setIfInBounds_toArray, List.set_cons_zero, List.set_cons_succ, i64_w, i32_w]
           rfl
          refine take_ (i := 3) (N := some 43) (v := ?_) (a' := ?_) #[true, true, true, true, false, false, false, false, false] rfl rfl (take_ofW HT_.out HW_.out (by kernel_rfl)) (fun _ _ _ h => h) (Or.inl ⟨by rfl, ?_⟩) hHeld ?_ ?_
          rotate_left
          ·rintro w' ⟨s0, s1, s2, s3, s4⟩
           go_simp
           with_reducible rfl
          rotate_left
          ·simp only [Act.put, List.setIfInBounds_toArray, List.set_cons_zero, List.set_cons_succ, i64_w, i32_w]
           rfl
          refine take_ (i := 4) (N := some 44) (v := ?_) (a' := ?_) #[true, true, true, true, true, false, false, false, false] rfl rfl (take_ofW HT_.out HW_.out (by kernel_rfl)) (fun _ _ _ h => h) (Or.inl ⟨by rfl, ?_⟩) hHeld ?_ ?_
          rotate_left
          ·rintro w' ⟨s0, s1, s2, s3, s4⟩
           go_simp
           with_reducible rfl
          rotate_left
          ·simp only [Act.put, List.setIfInBounds_toArray, List.set_cons_zero, List.set_cons_succ, i64_w, i32_w]
           rfl
          refine one_ (i := 5) (N := some 45) #[true, true, true, true, true, true, false, false, false] rfl rfl (one_of HT_.out (by kernel_rfl)) (by decide) (fun K hK => ?_)
          refine value_ (w1 := ?_) (v := ?_) (by rfl) rfl ?_ ?_
          rotate_left 2
          ·go_simp
           constructor
           ·rfl
           ·rfl
          refine hK.out _ _ ⟨(blk_cell (blk_alloc BO.out _) 0).trans rfl, (blk_cell (blk_alloc BK.out _) 0).trans rfl, (blk_cell (blk_alloc BK.out _) 1).trans rfl, (blk_cell (blk_alloc BK.out _) 2).trans rfl, (blk_cell (blk_alloc BK.out _) 3).trans rfl⟩ (fun hHeld2 => ?_)
          clear hK K hHeld hHeld2
          refine norm_ (a' := ?_) ?_ ?_
          rotate_left
          ·show Act.put _ (some 45) _ = _
           simp only [Act.put, List.setIfInBounds_toArray, List.set_cons_zero, List.set_cons_succ, i64_w, i32_w]
           rfl
          refine last_ (i := 6) (N := some 46) #[true, true, true, true, true, true, true, false, false] rfl rfl (one_of HT_.out (by kernel_rfl)) (by decide) (fun K hK => ?_)
          refine Kd.S_append_step k44 (w0 := w0) w0.heap.size (by rfl) (.tmp 43) (.tmp 45) 25 44 (.agg #[(.int .i64 0), (.string ⟨#[]⟩), (.slice none 0 0), (.int .i64 0)]) 56 rfl Try.underlying25 info44 rfl (by decide) (by omega) u2 x2 (⟨(rd_T44 l0 a1).f0, (rd_T44 l0 a1).f1, x8, (rd_T44 l0 a1).f3⟩ : S44) [.int .i64 (rd_T44 l0 a1).f0, .string (rd_T44 l0 a1).f1, .slice A8 ks.length c8, .int .i64 (rd_T44 l0 a1).f3] (fun k_ => (P0_ k_ ∨ w.heap.size ≤ k_) ∧ k_ ≠ go) (fun k_ => some k_ = (.slice A8 ks.length c8 : Value).ownBlock) rfl rfl ?aP ?aK ?aF ?aO ?aB ?aS ?aL ?_
          (case aP => exact k44_mkM _ _ _ (⟨(rd_T44 l0 a1).f0, (rd_T44 l0 a1).f1, x8, (rd_T44 l0 a1).f3⟩ : S44) (Kd.R_tight rfl HL.out))
          (case aK => exact (fun k_ hk => ⟨⟨.inr (HL.out.1 k_ hk.symm), fun e_ => Kd.R_ne HL.out BO.out (by decide) (e_ ▸ hk)⟩, fun e_ => by obtain ⟨cl_, hcl⟩ := Kd.R_typed HL.out k_ hk.symm; exact (Kd.S_ne HO.out hcl (by decide)) e_⟩))
          (case aB => exact HB.out)
          (case aF => exact (fun k_ hk => ⟨.inr (Nat.le_trans HK.out.1 hk), fun e_ => by have := blk_lt BO.out; omega⟩))
          (case aO => exact Kd.S_mono (ok := (fun k_ => (((P0_ k_ ∨ w.heap.size ≤ k_) ∧ k_ ≠ go) ∧ k_ ≠ gb) ∧ some k_ ≠ ((.slice A8 ks.length c8) : Value).ownBlock)) HO.out (fun k_ hk => ⟨hk.1.1, hk.2⟩))
          (case aS => exact HB.out.size)
          (case aL => have := H6.out; omega)
          intro v46 w13 ho hb hg hat
          rw [← NY2.out] at ho
          have n2_ := Aside0.mk (blk_grown BO.out hg (Kd.S_ne HO.out BO.out (by decide)))
          have nk_ := Aside0.mk (Kept.of_grown hg HK.out (fun k_ hk => show (P0_ k_ ∨ k_ = go) ∨ w.heap.size ≤ k_ from by rcases ((Kd.S_R HO.out).1 k_ hk).1.1.1 with p_ | p_; exact Or.inl (Or.inl p_); exact Or.inr p_))
          have no_ := Aside0.mk ho
          have nb_ := Aside0.mk hb
          clear ho hb hg hat HO HB HK HL BK BO hgo_ hcz_0 hcz_1 hcz_2 hcz_3
          have HO := no_
          have HB := nb_
          have HK := nk_
          have BO := n2_
          clear no_ nb_ nk_ n2_
          refine hK.out _ _ ?_
          clear hK K
          refine norm_ (a' := ?_) ?_ ?_
          rotate_left
          ·show Act.put _ (some 46) _ = _
           simp only [Act.put, List.setIfInBounds_toArray, List.set_cons_zero, List.set_cons_succ, i64_w, i32_w]
           rfl
          refine pure_ (i := 7) (N := some 47) (v := ?_) (a' := ?_) #[true, true, true, true, true, true, true, true, false] rfl rfl (any_of HT_.out (by kernel_rfl)) (fun _ _ _ h => h) (Or.inl ⟨by rfl, ?_⟩) ?_ ?_
          rotate_left
          ·intro w'
           go_simp
           with_reducible rfl
          rotate_left
          ·simp only [Act.put, List.setIfInBounds_toArray, List.set_cons_zero, List.set_cons_succ, i64_w, i32_w]
           rfl
          have hgo_ : w13.cell? ⟨go, 0, none⟩ = some u2 := (blk_cell BO.out 0).trans rfl
          have hfo_ : w13.frozen? ⟨go, 0, none⟩ = false := blk_frozen BO.out 0
          refine last_ (i := 8) (N := none) #[true, true, true, true, true, true, true, true, true] rfl rfl (one_of HT_.out (by kernel_rfl)) (by decide) (fun K hK => ?_)
          refine skip_ (w1 := (w13.setCell ⟨go, 0, none⟩ v46)) (by rfl) rfl ?_ ?_
          ·obtain ⟨Ao9, co9, eo9⟩ := Kd.S_slice HO.out
           subst eo9
           go_simp
           try rfl
          refine hK.out _ _ ?_
          clear hK K
          obtain ⟨w14, hw14⟩ : ∃ w_, w_ = w13.setCell ⟨go, 0, none⟩ v46 := ⟨_, rfl⟩
          rw [← hw14]
          have no_ : Aside0 (Kd.S k44 44 w14 w0.heap.size (fun k_ => (P0_ k_ ∨ w.heap.size ≤ k_) ∧ k_ ≠ go) v46 y2) := ⟨by rw [hw14]; exact Kd.S_far HO.out (p := ⟨go, 0, none⟩) (fun k_ hk => hk.2) _⟩
          have n2_ : Aside0 (w14.heap[go]? = some (.cells #[v46] 25 (0, 0))) := ⟨by rw [hw14]; exact blk_put BO.out 0 _ rfl⟩
          have nk_ : Aside0 (Kept w w14 (fun k_ => P0_ k_ ∨ k_ = go)) := ⟨by rw [hw14]; exact Kept.setCell HK.out (.inl (.inr rfl)) _⟩
          have nb_ : Aside0 (Below w0.heap.size w0 w14) := ⟨by rw [hw14]; exact below_set HB.out GO.out⟩
          clear HO HB HK BO hgo_ hfo_ hw14
          have HO := no_
          have HB := nb_
          have HK := nk_
          have BO := n2_
          clear no_ nb_ nk_ n2_
          obtain ⟨Ao9, co9, eo9⟩ := Kd.S_slice HO.out
          subst eo9
          have hgo_ : w14.cell? ⟨go, 0, none⟩ = some (.slice Ao9 y2.length co9) := (blk_cell BO.out 0).trans rfl
          have hfo_ : w14.frozen? ⟨go, 0, none⟩ = false := blk_frozen BO.out 0
          refine done_ (done_of HT_.out (by kernel_rfl)) ?_
          go_wp2
          go_ret
          exact ⟨by first | rfl | (simp [*] <;> rfl), _, (by (with_reducible repeat (first | refine blk_drewN ?_ _ | refine blk_drew ?_ | refine blk_alloc ?_ _)); exact BO.out), (by (with_reducible repeat (first | apply Kd.S_alloc | apply Kd.S_drewN | apply Kd.S_drew)); exact HO.out), (by repeat (first | (with_reducible first | exact HB.out | apply below_alloc | apply pw_below_drewN | apply below_drew1) | exact HB.out)), (by repeat (first | (with_reducible first | exact HK.out | apply Kept.alloc | apply Kept.drewN | apply Kept.drew) | exact HK.out))⟩
  
  · rw [if_neg cq] at hks
    have cqb0 : ((rd_T44 l0 a1).f0 == 2) = false := beq_eq_false_iff_ne.mpr cq
    clear cq
    obtain rfl := Option.some.inj hks
    clear hks
    go_enter Try.func48, Try.ntmps48
    go_wp2_with (first | ((with_reducible refine gate_dst (N := 7) rfl ?_); (try (refine gate_guard (by rfl) ?_; dsimp only)); refine box_event ?hg (N := 7) ?hd (cs := #[.int .i64 0, .string (⟨#[]⟩ : ByteArray), .slice none 0 0, .int .i64 0]) (t := 44) ?hr ?_; (case hd => rfl); (case hg => rfl); (case hr => first | (go_simp; done) | (go_simp; rfl)); intro gb hg w6 hbox hb; have nk_ := Aside0.mk (Kept.below (by repeat (first | (with_reducible first | exact HK.out | apply Kept.alloc | apply Kept.drewN | apply Kept.drew) | exact HK.out)) hb); have nb_ := Aside0.mk (below_step (by repeat (first | (with_reducible first | exact HB.out | apply below_alloc | apply pw_below_drewN | apply below_drew1) | exact HB.out)) hb); have GE : Aside0 (w0.heap.size ≤ gb) := ⟨by rw [hg]; exact (below_size (by repeat (first | (with_reducible first | exact HB.out | apply below_alloc | apply pw_below_drewN | apply below_drew1) | exact HB.out)))⟩; have GW : Aside0 (w.heap.size ≤ gb) := ⟨by rw [hg]; exact turn_ks (by repeat (first | (with_reducible first | exact HK.out | apply Kept.alloc | apply Kept.drewN | apply Kept.drew) | exact HK.out))⟩; have GN : Aside0 (go ≠ gb) := ⟨fun e_ => by have := GW.out; have := GOW.out; omega⟩; have no_ := Aside0.mk (Kd.S_mono (ok := (fun k_ => P0_ k_ ∧ k_ < w.heap.size)) (ok' := (fun k_ => ((P0_ k_ ∨ w.heap.size ≤ k_) ∧ k_ ≠ go) ∧ k_ ≠ gb)) (Kd.S_below (by (with_reducible repeat (first | apply Kd.S_alloc | apply Kd.S_drewN | apply Kd.S_drew)); exact HO.out) hb) (fun k_ hk => ⟨⟨.inl hk.1, HPG.out k_ hk.1⟩, fun e_ => by have := GW.out; have := hk.2; omega⟩)); have no2_ := Aside0.mk (blk_below (g := go) (o := .cells #[uo] 25 (0, 0)) (by (with_reducible repeat (first | refine blk_drewN ?_ _ | refine blk_drew ?_ | refine blk_alloc ?_ _)); exact BO.out) hb); have BK := Aside0.mk hbox; clear hb hbox hg; clear HO HB HK BO; have HO := no_; have HB := nb_; have HK := nk_; have BO := no2_; clear no_ nb_ nk_ no2_; have hcz_0 : w6.cell? ⟨gb, 0, none⟩ = some (.int .i64 0) := (blk_cell BK.out 0).trans rfl; have hcz_1 : w6.cell? ⟨gb, 1, none⟩ = some (.string (⟨#[]⟩ : ByteArray)) := (blk_cell BK.out 1).trans rfl; have hcz_2 : w6.cell? ⟨gb, 2, none⟩ = some (.slice none 0 0) := (blk_cell BK.out 2).trans rfl; have hcz_3 : w6.cell? ⟨gb, 3, none⟩ = some (.int .i64 0) := (blk_cell BK.out 3).trans rfl; have hfz_0 := blk_frozen BK.out 0; have hfz_1 := blk_frozen BK.out 1; have hfz_2 := blk_frozen BK.out 2; have hfz_3 := blk_frozen BK.out 3) | ((with_reducible refine gate_store (t := 44) (p := 7) rfl ?_); refine store_event (t := 44) (p := 7) (v := ?vo) (w1 := ((((w6.setCell ⟨gb, 0, none⟩ (.int .i64 (rd_T44 l0 a1).f0)).setCell ⟨gb, 1, none⟩ (.string (rd_T44 l0 a1).f1)).setCell ⟨gb, 2, none⟩ (.slice A2 (rd_T44 l0 a1).f2.length c2)).setCell ⟨gb, 3, none⟩ (.int .i64 (rd_T44 l0 a1).f3))) ?hg ?ho ?hn ?hr ?_; (case ho => rfl); (case hg => rfl); (case hn => rfl); (case hr => first | (go_simp; done) | (go_simp; rfl)); intro w8 hw; have n0_ : Aside0 (w8.heap[gb]? = some (.cells #[.int .i64 (rd_T44 l0 a1).f0, .string (rd_T44 l0 a1).f1, .slice A2 (rd_T44 l0 a1).f2.length c2, .int .i64 (rd_T44 l0 a1).f3] 44 (0, 0))) := ⟨(by rw [hw]; refine blk_put (cs := #[.int .i64 (rd_T44 l0 a1).f0, .string (rd_T44 l0 a1).f1, .slice A2 (rd_T44 l0 a1).f2.length c2, .int .i64 0]) ?_ 3 _ rfl; refine blk_put (cs := #[.int .i64 (rd_T44 l0 a1).f0, .string (rd_T44 l0 a1).f1, .slice none 0 0, .int .i64 0]) ?_ 2 _ rfl; refine blk_put (cs := #[.int .i64 (rd_T44 l0 a1).f0, .string (⟨#[]⟩ : ByteArray), .slice none 0 0, .int .i64 0]) ?_ 1 _ rfl; refine blk_put (cs := #[.int .i64 0, .string (⟨#[]⟩ : ByteArray), .slice none 0 0, .int .i64 0]) ?_ 0 _ rfl; exact (by (with_reducible repeat (first | refine blk_drewN ?_ _ | refine blk_drew ?_ | refine blk_alloc ?_ _)); exact BK.out))⟩; have nb_ : Aside0 (Below w0.heap.size w0 w8) := ⟨by rw [hw]; exact below_set (below_set (below_set (below_set HB.out GE.out) GE.out) GE.out) GE.out⟩; have nk_ : Aside0 (Kept w w8 (fun k_ => P0_ k_ ∨ k_ = go)) := ⟨by rw [hw]; exact Kept.setCell (Kept.setCell (Kept.setCell (Kept.setCell HK.out (.inr GW.out) _) (.inr GW.out) _) (.inr GW.out) _) (.inr GW.out) _⟩; have no_ : Aside0 (Kd.S k44 44 w8 w0.heap.size (fun k_ => ((P0_ k_ ∨ w.heap.size ≤ k_) ∧ k_ ≠ go) ∧ k_ ≠ gb) uo a2) := ⟨by rw [hw]; exact Kd.S_far (Kd.S_far (Kd.S_far (Kd.S_far HO.out (p := ⟨gb, 0, none⟩) (fun k_ hk => hk.2) _) (p := ⟨gb, 1, none⟩) (fun k_ hk => hk.2) _) (p := ⟨gb, 2, none⟩) (fun k_ hk => hk.2) _) (p := ⟨gb, 3, none⟩) (fun k_ hk => hk.2) _⟩; have no2_ : Aside0 (w8.heap[go]? = some (.cells #[uo] 25 (0, 0))) := ⟨by rw [hw]; exact blk_far (blk_far (blk_far (blk_far BO.out (p := ⟨gb, 0, none⟩) GN.out _) (p := ⟨gb, 1, none⟩) GN.out _) (p := ⟨gb, 2, none⟩) GN.out _) (p := ⟨gb, 3, none⟩) GN.out _⟩; clear hw hcz_0 hcz_1 hcz_2 hcz_3 hfz_0 hfz_1 hfz_2 hfz_3; clear BK HO HB HK BO; have BK := n0_; have HO := no_; have HB := nb_; have HK := nk_; have BO := no2_; clear n0_ no_ nb_ nk_ no2_; have hcz_0 : w8.cell? ⟨gb, 0, none⟩ = some (.int .i64 (rd_T44 l0 a1).f0) := (blk_cell BK.out 0).trans rfl; have hcz_1 : w8.cell? ⟨gb, 1, none⟩ = some (.string (rd_T44 l0 a1).f1) := (blk_cell BK.out 1).trans rfl; have hcz_2 : w8.cell? ⟨gb, 2, none⟩ = some (.slice A2 (rd_T44 l0 a1).f2.length c2) := (blk_cell BK.out 2).trans rfl; have hcz_3 : w8.cell? ⟨gb, 3, none⟩ = some (.int .i64 (rd_T44 l0 a1).f3) := (blk_cell BK.out 3).trans rfl; have hfz_0 := blk_frozen BK.out 0; have hfz_1 := blk_frozen BK.out 1; have hfz_2 := blk_frozen BK.out 2; have hfz_3 := blk_frozen BK.out 3) | ((with_reducible refine gate_callee (f := 66) rfl ?_); refine goesL_ (some 16) rfl rfl Try.func66 (by kernel_rfl) rfl #[.slice A2 (rd_T44 l0 a1).f2.length c2] rfl (by (try simp only [List.map_toArray, List.map_cons, List.map_nil]); first | done | rfl | (simp only [List.length_drop, List.length_take]; rfl)) ?_; (with_reducible refine (slices_Clone_int64_int64.calls A2 c2 (rd_T44 l0 a1).f2 _ ?side1 H5.out).mono ?_); (case side1 => exact Kd.C_below HR2.out (by repeat (first | (with_reducible first | exact HB.out | apply below_alloc | apply pw_below_drewN | apply below_drew1) | exact HB.out))); rintro e w9 ⟨v8, rfl, ho, hb⟩; refine ⟨_, rfl, ?_⟩; obtain ⟨A8, c8, rfl⟩ := Kd.R_slice ho; have nl_ := Aside0.mk (Kd.R_lower (Kd.R_mono (ok' := fun k_ => w.heap.size ≤ k_) (Kd.R_bound ho) (fun k_ hk => Nat.le_trans (turn_ks (by repeat (first | (with_reducible first | exact HK.out | apply Kept.alloc | apply Kept.drewN | apply Kept.drew) | exact HK.out))) hk.2.1)) (below_size (by repeat (first | (with_reducible first | exact HB.out | apply below_alloc | apply pw_below_drewN | apply below_drew1) | exact HB.out)))); have no_ := Aside0.mk (Kd.S_elder' (by (with_reducible repeat (first | apply Kd.S_alloc | apply Kd.S_drewN | apply Kd.S_drew)); exact HO.out) (Kd.R_base ho) hb); have n0_ := Aside0.mk (blk_below (g := gb) (o := .cells #[.int .i64 (rd_T44 l0 a1).f0, .string (rd_T44 l0 a1).f1, .slice A2 (rd_T44 l0 a1).f2.length c2, .int .i64 (rd_T44 l0 a1).f3] 44 (0, 0)) (by (with_reducible repeat (first | refine blk_drewN ?_ _ | refine blk_drew ?_ | refine blk_alloc ?_ _)); exact BK.out) hb); have no2_ := Aside0.mk (blk_below (g := go) (o := .cells #[uo] 25 (0, 0)) (by (with_reducible repeat (first | refine blk_drewN ?_ _ | refine blk_drew ?_ | refine blk_alloc ?_ _)); exact BO.out) hb); have nk_ := Aside0.mk (Kept.below (by repeat (first | (with_reducible first | exact HK.out | apply Kept.alloc | apply Kept.drewN | apply Kept.drew) | exact HK.out)) hb); have nb_ := Aside0.mk (below_step (by repeat (first | (with_reducible first | exact HB.out | apply below_alloc | apply pw_below_drewN | apply below_drew1) | exact HB.out)) hb); clear ho hb; clear hcz_0 hcz_1 hcz_2 hcz_3 hfz_0 hfz_1 hfz_2 hfz_3; clear BK HO HB HK BO; have BK := n0_; have HO := no_; have HB := nb_; have HK := nk_; have BO := no2_; have HL := nl_; clear n0_ no_ nb_ nk_ no2_ nl_; have hcz_0 : w9.cell? ⟨gb, 0, none⟩ = some (.int .i64 (rd_T44 l0 a1).f0) := (blk_cell BK.out 0).trans rfl; have hcz_1 : w9.cell? ⟨gb, 1, none⟩ = some (.string (rd_T44 l0 a1).f1) := (blk_cell BK.out 1).trans rfl; have hcz_2 : w9.cell? ⟨gb, 2, none⟩ = some (.slice A2 (rd_T44 l0 a1).f2.length c2) := (blk_cell BK.out 2).trans rfl; have hcz_3 : w9.cell? ⟨gb, 3, none⟩ = some (.int .i64 (rd_T44 l0 a1).f3) := (blk_cell BK.out 3).trans rfl; have hfz_0 := blk_frozen BK.out 0; have hfz_1 := blk_frozen BK.out 1; have hfz_2 := blk_frozen BK.out 2; have hfz_3 := blk_frozen BK.out 3))
    have hlen := (Kd.R_reads' HL.out).1
    clear hlen
    try clear hcz_0 hcz_1 hcz_2 hcz_3 hfz_0 hfz_1 hfz_2 hfz_3
    go_loopg [24] k (fun kq v24 w' => ∃ (u2 : Value) (x2 : List S44) (x8 : List Int) (x24 : Int), v24 = .int .i64 x24 ∧ Aside0 (impl_turn.l0 kq l0 x2 x8 ((rd_T44 l0 a1).f2.length : Int) x24 = some (ro, rk)) ∧ Aside0 (kq ≤ k) ∧ Aside0 (x8.length = (rd_T44 l0 a1).f2.length) ∧ Aside0 (w'.heap[go]? = some (.cells #[u2] 25 (0, 0))) ∧ Aside0 (Kd.S k44 44 w' w0.heap.size (fun k_ => (((P0_ k_ ∨ w.heap.size ≤ k_) ∧ k_ ≠ go) ∧ k_ ≠ gb) ∧ some k_ ≠ ((.slice A8 (rd_T44 l0 a1).f2.length c8) : Value).ownBlock) u2 x2) ∧ Aside0 (Kd.R (Kd.int .i64) 2 w' w0.heap.size (fun k_ => w.heap.size ≤ k_) (.slice A8 (rd_T44 l0 a1).f2.length c8) x8) ∧ Aside0 (w'.heap[gb]? = some (.cells #[.int .i64 (rd_T44 l0 a1).f0, .string (rd_T44 l0 a1).f1, .slice A2 (rd_T44 l0 a1).f2.length c2, .int .i64 (rd_T44 l0 a1).f3] 44 (0, 0))) ∧ Aside0 (Kept w w' (fun k_ => P0_ k_ ∨ k_ = go)) ∧ Aside0 (Below w0.heap.size w0 w'))
    case atStart => exact ⟨uo, a2, (rd_T44 l0 a1).f2, 0, (by first | rfl | (simp; done) | (simp [*]; done)), H', ⟨Nat.le_refl _⟩, ⟨rfl⟩, ⟨(by (with_reducible repeat (first | refine blk_drewN ?_ _ | refine blk_drew ?_ | refine blk_alloc ?_ _)); exact BO.out)⟩, ⟨(by (with_reducible repeat (first | apply Kd.S_alloc | apply Kd.S_drewN | apply Kd.S_drew)); exact HO.out)⟩, ⟨(by (with_reducible repeat (first | apply Kd.R_alloc | apply Kd.R_drewN | apply Kd.R_drew)); exact HL.out)⟩, ⟨(by (with_reducible repeat (first | refine blk_drewN ?_ _ | refine blk_drew ?_ | refine blk_alloc ?_ _)); exact BK.out)⟩, ⟨(by repeat (first | (with_reducible first | exact HK.out | apply Kept.alloc | apply Kept.drewN | apply Kept.drew) | exact HK.out))⟩, ⟨(by repeat (first | (with_reducible first | exact HB.out | apply below_alloc | apply pw_below_drewN | apply below_drew1) | exact HB.out))⟩⟩
    case round =>
      clear H' HO HK HB HL BK BO
      obtain ⟨u2, x2, x8, x24, rfl, HA, HK1, HLN, BO, HO, HL, BK, HK, HB⟩ := hrel
      cases gk with
      | zero => exact absurd HA.out (by simp [impl_turn.l0])
      | succ k1 =>
        have H := HA.out
        clear HA
        rw [impl_turn.l0] at H
        have hcz_0 : wr.cell? ⟨gb, 0, none⟩ = some (.int .i64 (rd_T44 l0 a1).f0) := (blk_cell BK.out 0).trans rfl
        have hcz_1 : wr.cell? ⟨gb, 1, none⟩ = some (.string (rd_T44 l0 a1).f1) := (blk_cell BK.out 1).trans rfl
        have hcz_2 : wr.cell? ⟨gb, 2, none⟩ = some (.slice A2 (rd_T44 l0 a1).f2.length c2) := (blk_cell BK.out 2).trans rfl
        have hcz_3 : wr.cell? ⟨gb, 3, none⟩ = some (.int .i64 (rd_T44 l0 a1).f3) := (blk_cell BK.out 3).trans rfl
        have hfz_0 := blk_frozen BK.out 0
        have hfz_1 := blk_frozen BK.out 1
        have hfz_2 := blk_frozen BK.out 2
        have hfz_3 := blk_frozen BK.out 3
        have hgo_ : wr.cell? ⟨go, 0, none⟩ = some u2 := (blk_cell BO.out 0).trans rfl
        have hfo_ := blk_frozen BO.out 0
        by_cases hi : x24 < ((rd_T44 l0 a1).f2.length : Int)
        · rw [if_pos hi] at H
          by_cases h3 : 0 ≤ x24
          case neg => rw [if_neg h3] at H; cases H
          rw [if_pos h3] at H
          by_cases h4 : x24 < (x8.length : Int)
          case neg => rw [if_neg h4] at H; cases H
          rw [if_pos h4] at H
          obtain ⟨⟨n1, o1⟩, hc, H⟩ := Option.bind_eq_some_iff.1 H
          obtain ⟨y8, hy8⟩ : ∃ y_ : List Int, y_ = x8.set x24.toNat n1 := ⟨_, rfl⟩
          have HC_ := Aside0.mk hc
          have H' := Aside0.mk H
          have c7b0 : decide (x24 < ((rd_T44 l0 a1).f2.length : Int)) = true := decide_eq_true hi
          clear hc H
          obtain ⟨g8, cap8, e8, gb8, _, _⟩ := Kd.R_form HL.out (by omega)
          injection e8 with ea_ en_ ec_
          subst ea_
          clear en_ ec_
          have hx8 : wr.cell? ⟨g8, x24.toNat, none⟩ = some (.int .i64 (rd x8 x24)) := (Kd.R_celln 0 HL.out x24 h3 hi).1
          have GE8 := Aside0.mk gb8
          have GW8 : Aside0 (w.heap.size ≤ g8) := ⟨HL.out.1 g8 (by simp [Value.ownBlock])⟩
          have NG8 : Aside0 (gb ≠ g8) := ⟨fun e_ => Kd.R_ne HL.out BK.out (by decide) (by rw [e_]; simp [Value.ownBlock])⟩
          have NO8 : Aside0 (go ≠ g8) := ⟨fun e_ => Kd.R_ne HL.out BO.out (by decide) (by rw [e_]; simp [Value.ownBlock])⟩
          have HI := Aside0.mk (And.intro h3 hi)
          have NY8 := Aside0.mk hy8
          have p8 := eq_true h3
          have q8 := eq_true hi
          clear h3 h4 hi gb8 hy8
          go_wp2_with (first | ((with_reducible refine gate_callee (f := 48) rfl ?_); refine goesL_ (some 35) rfl rfl Try.func48 (by kernel_rfl) rfl #[.slice (some ad1) l0.length c0, .int .i64 (rd x8 x24), .pointer (some ⟨go, 0, none⟩)] rfl (by (try simp only [List.map_toArray, List.map_cons, List.map_nil]); first | done | rfl | (simp only [List.length_drop, List.length_take]; rfl)) ?_; (with_reducible refine (ih k1 ?sideL (some ad1) c0 l0 (rd x8 x24) go u2 x2 n1 o1 (fun k_ => (((P0_ k_ ∨ w.heap.size ≤ k_) ∧ k_ ≠ go) ∧ k_ ≠ gb) ∧ some k_ ≠ ((.slice (some ⟨g8, 0, none⟩) (rd_T44 l0 a1).f2.length c8) : Value).ownBlock) w0 _ ?side1 HR0.out HC0.out GO.out ?side2 (fun k_ hk => hk.1.1.2) ?side3 HC_.out).mono ?_); (case sideL => have := HK1.out; omega); (case side1 => exact (by repeat (first | (with_reducible first | exact HB.out | apply below_alloc | apply pw_below_drewN | apply below_drew1) | exact HB.out))); (case side2 => exact (by (with_reducible repeat (first | refine blk_drewN ?_ _ | refine blk_drew ?_ | refine blk_alloc ?_ _)); exact BO.out)); (case side3 => exact (by (with_reducible repeat (first | apply Kd.S_alloc | apply Kd.S_drewN | apply Kd.S_drew)); exact HO.out)); rintro e w10 ⟨rfl, u5, hbo, ho, hb, hkp⟩; refine ⟨_, rfl, ?_⟩; have n0_ := Aside0.mk (blk_kept (g := gb) (o := .cells #[.int .i64 (rd_T44 l0 a1).f0, .string (rd_T44 l0 a1).f1, .slice A2 (rd_T44 l0 a1).f2.length c2, .int .i64 (rd_T44 l0 a1).f3] 44 (0, 0)) (by (with_reducible repeat (first | refine blk_drewN ?_ _ | refine blk_drew ?_ | refine blk_alloc ?_ _)); exact BK.out) hkp (fun hs_ => hs_.elim (fun h_ => h_.1.2 rfl) (fun h_ => GN.out h_.symm))); have hl8 : g8 < wr.heap.size := Kd.R_lt HL.out g8 (by simp [Value.ownBlock]); have hl9 := blk_lt BK.out; have no_ := Aside0.mk (Kd.S_mono (ok' := (fun k_ => (((P0_ k_ ∨ w.heap.size ≤ k_) ∧ k_ ≠ go) ∧ k_ ≠ gb) ∧ some k_ ≠ ((.slice (some ⟨g8, 0, none⟩) (rd_T44 l0 a1).f2.length c8) : Value).ownBlock)) ho (fun k_ hk => hk.1.elim id (fun hge => ⟨⟨⟨.inr (Nat.le_trans (turn_ks (by repeat (first | (with_reducible first | exact HK.out | apply Kept.alloc | apply Kept.drewN | apply Kept.drew) | exact HK.out))) hge), hk.2⟩, fun e_ => Nat.lt_irrefl _ (Nat.lt_of_lt_of_le (e_ ▸ hl9) hge)⟩, fun e_ => by obtain rfl : k_ = g8 := (by simpa [Value.ownBlock] using e_); exact Nat.lt_irrefl _ (Nat.lt_of_lt_of_le hl8 hge)⟩))); have nl_ := Aside0.mk (Kd.R_mono (ok' := fun k_ => w.heap.size ≤ k_) (Kd.R_kept (Kd.R_tight2 rfl (by (with_reducible repeat (first | apply Kd.R_alloc | apply Kd.R_drewN | apply Kd.R_drew)); exact HL.out)) hkp (fun k_ hk hs_ => hs_.elim (fun h_ => h_.2 hk.1) (fun h_ => NO8.out (by rw [← h_]; simpa [Value.ownBlock] using hk.1)))) (fun k_ hk => hk.2)); have nk_ := Aside0.mk (Kept.then_ (by repeat (first | (with_reducible first | exact HK.out | apply Kept.alloc | apply Kept.drewN | apply Kept.drew) | exact HK.out)) hkp (fun k_ hk => show (P0_ k_ ∨ k_ = go) ∨ w.heap.size ≤ k_ from by rcases hk with h_ | h_; (rcases h_.1.1.1 with p_ | p_; exact Or.inl (Or.inl p_); exact Or.inr p_); exact Or.inl (Or.inr h_))); have nb_ := Aside0.mk hb; have no2_ := Aside0.mk hbo; clear ho hb hkp hbo hl8 hl9; clear BK HO HB HK HL BO; have BK := n0_; have HO := no_; have HB := nb_; have HK := nk_; have HL := nl_; have BO := no2_; clear n0_ no_ nb_ nk_ nl_ no2_; obtain ⟨hx9, hf9⟩ := Kd.R_celln 0 HL.out x24 HI.out.1 HI.out.2; have HQ := Aside0.mk (Kd.R_putn HL.out x24 n1)) | ((with_reducible refine gate_store (t := 2) (p := 36) rfl ?_); refine store_event (t := 2) (p := 36) (v := ?vo36) (w1 := (w10.setCell ⟨g8, x24.toNat, none⟩ (.int .i64 n1))) ?hg ?ho ?hn ?hr ?_; (case ho => rfl); (case hg => rfl); (case hn => rfl); (case hr => first | (go_simp; done) | (go_simp; rfl)); intro w11 hw; have nl_ : Aside0 (Kd.R (Kd.int .i64) 2 w11 w0.heap.size (fun k_ => w.heap.size ≤ k_) (.slice (some ⟨g8, 0, none⟩) (rd_T44 l0 a1).f2.length c8) y8) := ⟨by rw [hw, NY8.out]; exact HQ.out⟩; have n0_ : Aside0 (w11.heap[gb]? = some (.cells #[.int .i64 (rd_T44 l0 a1).f0, .string (rd_T44 l0 a1).f1, .slice A2 (rd_T44 l0 a1).f2.length c2, .int .i64 (rd_T44 l0 a1).f3] 44 (0, 0))) := ⟨by rw [hw]; exact blk_far BK.out (p := ⟨g8, x24.toNat, none⟩) NG8.out _⟩; have no2_ : Aside0 (w11.heap[go]? = some (.cells #[u5] 25 (0, 0))) := ⟨by rw [hw]; exact blk_far BO.out (p := ⟨g8, x24.toNat, none⟩) NO8.out _⟩; have no_ : Aside0 (Kd.S k44 44 w11 w0.heap.size (fun k_ => (((P0_ k_ ∨ w.heap.size ≤ k_) ∧ k_ ≠ go) ∧ k_ ≠ gb) ∧ some k_ ≠ ((.slice (some ⟨g8, 0, none⟩) (rd_T44 l0 a1).f2.length c8) : Value).ownBlock) u5 o1) := ⟨by rw [hw]; exact Kd.S_far HO.out (p := ⟨g8, x24.toNat, none⟩) (fun k_ hk e_ => hk.2 (by rw [e_]; simp [Value.ownBlock])) _⟩; have nk_ : Aside0 (Kept w w11 (fun k_ => P0_ k_ ∨ k_ = go)) := ⟨by rw [hw]; exact Kept.setCell HK.out (.inr GW8.out) _⟩; have nb_ : Aside0 (Below w0.heap.size w0 w11) := ⟨by rw [hw]; exact below_set HB.out GE8.out⟩; clear hw HQ hx9 hf9; clear BK HO HB HK HL BO; have BK := n0_; have HO := no_; have HB := nb_; have HK := nk_; have HL := nl_; have BO := no2_; clear n0_ no_ nb_ nk_ nl_ no2_))
          go_roundg k1
          case measure => have := HK1.out; omega
          case rel => exact ⟨u5, o1, y8, wrap64 (x24 + 1), (by first | rfl | (simp; done) | (simp [*]; done)), ⟨by rw [NY8.out]; exact H'.out⟩, ⟨by have := HK1.out; omega⟩, ⟨by rw [NY8.out, List.length_set]; exact HLN.out⟩, ⟨(by (with_reducible repeat (first | refine blk_drewN ?_ _ | refine blk_drew ?_ | refine blk_alloc ?_ _)); exact BO.out)⟩, ⟨(by (with_reducible repeat (first | apply Kd.S_alloc | apply Kd.S_drewN | apply Kd.S_drew)); exact HO.out)⟩, ⟨(by (with_reducible repeat (first | apply Kd.R_alloc | apply Kd.R_drewN | apply Kd.R_drew)); exact HL.out)⟩, ⟨(by (with_reducible repeat (first | refine blk_drewN ?_ _ | refine blk_drew ?_ | refine blk_alloc ?_ _)); exact BK.out)⟩, ⟨(by repeat (first | (with_reducible first | exact HK.out | apply Kept.alloc | apply Kept.drewN | apply Kept.drew) | exact HK.out))⟩, ⟨(by repeat (first | (with_reducible first | exact HB.out | apply below_alloc | apply pw_below_drewN | apply below_drew1) | exact HB.out))⟩⟩
        · rw [if_neg hi] at H
          have c7b0 : decide (x24 < ((rd_T44 l0 a1).f2.length : Int)) = false := decide_eq_false hi
          clear hi
          obtain ⟨rfl, rfl⟩ : x2 = ro ∧ x8 = rk := by simpa using H
          clear H
          have hf := HF.out
          by_cases h6 : x2.length < 1000000
          case neg => rw [if_neg h6] at hf; cases hf
          rw [if_pos h6] at hf
          obtain ⟨y2, hy2⟩ : ∃ y_ : List S44, y_ = x2 ++ [(⟨(rd_T44 l0 a1).f0, (rd_T44 l0 a1).f1, x8, (rd_T44 l0 a1).f3⟩ : S44)] := ⟨_, rfl⟩
          simp only [← hy2, Option.some.injEq, Prod.mk.injEq] at hf
          obtain ⟨hr1, hr2⟩ := hf
          subst hr1
          subst hr2
          have H6 := Aside0.mk h6
          have NY2 := Aside0.mk hy2
          clear h6 HF hy2
          go_upto_region 11 with (first | ((with_reducible refine gate_store (t := 41) (p := 39) rfl ?_); refine store_event (t := 41) (p := 39) (v := ?vo39) (w1 := (wr.setCell ⟨gb, 2, none⟩ (.slice A8 (rd_T44 l0 a1).f2.length c8))) ?hg ?ho ?hn ?hr ?_; (case ho => rfl); (case hg => rfl); (case hn => rfl); (case hr => first | (go_simp; done) | (go_simp; rfl)); intro w11 hw; have nl_ : Aside0 (Kd.R (Kd.int .i64) 2 w11 w0.heap.size (fun k_ => w.heap.size ≤ k_) (.slice A8 (rd_T44 l0 a1).f2.length c8) x8) := ⟨by rw [hw]; exact Kd.R_mono (Kd.R_far (Kd.R_tight2 rfl HL.out) (p := ⟨gb, 2, none⟩) (fun k_ hk e_ => Kd.R_ne HL.out BK.out (by decide) (by have e2 : k_ = gb := e_; rw [← e2]; exact hk.1)) _) (fun k_ hk => hk.2)⟩; have n0_ : Aside0 (w11.heap[gb]? = some (.cells #[.int .i64 (rd_T44 l0 a1).f0, .string (rd_T44 l0 a1).f1, .slice A8 (rd_T44 l0 a1).f2.length c8, .int .i64 (rd_T44 l0 a1).f3] 44 (0, 0))) := ⟨by rw [hw]; exact blk_put BK.out 2 _ rfl⟩; have no2_ : Aside0 (w11.heap[go]? = some (.cells #[u2] 25 (0, 0))) := ⟨by rw [hw]; exact blk_far BO.out (p := ⟨gb, 2, none⟩) GN.out _⟩; have no_ : Aside0 (Kd.S k44 44 w11 w0.heap.size (fun k_ => (((P0_ k_ ∨ w.heap.size ≤ k_) ∧ k_ ≠ go) ∧ k_ ≠ gb) ∧ some k_ ≠ ((.slice A8 (rd_T44 l0 a1).f2.length c8) : Value).ownBlock) u2 x2) := ⟨by rw [hw]; exact Kd.S_far HO.out (p := ⟨gb, 2, none⟩) (fun k_ hk => hk.1.2) _⟩; have nk_ : Aside0 (Kept w w11 (fun k_ => P0_ k_ ∨ k_ = go)) := ⟨by rw [hw]; exact Kept.setCell HK.out (.inr GW.out) _⟩; have nb_ : Aside0 (Below w0.heap.size w0 w11) := ⟨by rw [hw]; exact below_set HB.out GE.out⟩; clear hw hcz_0 hcz_1 hcz_2 hcz_3 hfz_0 hfz_1 hfz_2 hfz_3 hgo_ hfo_; clear BK HO HB HK HL BO; have BK := n0_; have HO := no_; have HB := nb_; have HK := nk_; have HL := nl_; have BO := no2_; clear n0_ no_ nb_ nk_ nl_ no2_; have hcz_0 : w11.cell? ⟨gb, 0, none⟩ = some (.int .i64 (rd_T44 l0 a1).f0) := (blk_cell BK.out 0).trans rfl; have hcz_1 : w11.cell? ⟨gb, 1, none⟩ = some (.string (rd_T44 l0 a1).f1) := (blk_cell BK.out 1).trans rfl; have hcz_2 : w11.cell? ⟨gb, 2, none⟩ = some (.slice A8 (rd_T44 l0 a1).f2.length c8) := (blk_cell BK.out 2).trans rfl; have hcz_3 : w11.cell? ⟨gb, 3, none⟩ = some (.int .i64 (rd_T44 l0 a1).f3) := (blk_cell BK.out 3).trans rfl; have hfz_0 := blk_frozen BK.out 0; have hfz_1 := blk_frozen BK.out 1; have hfz_2 := blk_frozen BK.out 2; have hfz_3 := blk_frozen BK.out 3; have hgo_ : w11.cell? ⟨go, 0, none⟩ = some u2 := (blk_cell BO.out 0).trans rfl; have hfo_ := blk_frozen BO.out 0))
          have nHL_ := Aside0.mk (Kd.R_drew HL.out)
          have nHO_ := Aside0.mk (Kd.S_drew HO.out)
          have nHK_ := Aside0.mk (Kept.drew HK.out)
          have nHB_ := Aside0.mk (below_drew1 HB.out)
          have nBK_ := Aside0.mk (blk_drew BK.out)
          have nBO_ := Aside0.mk (blk_drew BO.out)
          clear HL HO HK HB BK BO hcz_0 hcz_1 hcz_2 hcz_3 hfz_0 hfz_1 hfz_2 hfz_3 hgo_ hfo_
          have HL := nHL_
          have HO := nHO_
          have HK := nHK_
          have HB := nHB_
          have BK := nBK_
          have BO := nBO_
          clear nHL_ nHO_ nHK_ nHB_ nBK_ nBO_
          have hgo_ : w11.drew.cell? ⟨go, 0, none⟩ = some u2 := (blk_cell BO.out 0).trans rfl
          have hcz_0 : w11.drew.cell? ⟨gb, 0, none⟩ = some (.int .i64 (rd_T44 l0 a1).f0) := (blk_cell BK.out 0).trans rfl
          have hcz_1 : w11.drew.cell? ⟨gb, 1, none⟩ = some (.string (rd_T44 l0 a1).f1) := (blk_cell BK.out 1).trans rfl
          have hcz_2 : w11.drew.cell? ⟨gb, 2, none⟩ = some (.slice A8 (rd_T44 l0 a1).f2.length c8) := (blk_cell BK.out 2).trans rfl
          have hcz_3 : w11.drew.cell? ⟨gb, 3, none⟩ = some (.int .i64 (rd_T44 l0 a1).f3) := (blk_cell BK.out 3).trans rfl
          refine start_ (n := 9) (S := fun w' => w'.cell? ⟨go, 0, none⟩ = some u2 ∧ w'.cell? ⟨gb, 0, none⟩ = some (.int .i64 (rd_T44 l0 a1).f0) ∧ w'.cell? ⟨gb, 1, none⟩ = some (.string (rd_T44 l0 a1).f1) ∧ w'.cell? ⟨gb, 2, none⟩ = some (.slice A8 (rd_T44 l0 a1).f2.length c8) ∧ w'.cell? ⟨gb, 3, none⟩ = some (.int .i64 (rd_T44 l0 a1).f3)) (ds := [6, 8]) #[false, false, false, false, false, false, false, false, false] (by kernel_rfl) rfl rfl ⟨hgo_, hcz_0, hcz_1, hcz_2, hcz_3⟩ (fun hHeld => ?_)
          refine with_tabW impl_turn.tab11 impl_turn.bits11 (fun HT_ HW_ => ?_)
          generalize w11.drew = w12 at HO HL HK HB BK BO hgo_ hcz_0 hcz_1 hcz_2 hcz_3 hHeld ⊢
          refine pure_ (i := 0) (N := some 40) (v := ?_) (a' := ?_) #[true, false, false, false, false, false, false, false, false] rfl rfl (any_of HT_.out (by kernel_rfl)) (fun _ _ _ h => h) (Or.inl ⟨by rfl, ?_⟩) ?_ ?_
          rotate_left
          ·intro w'
           go_simp
           with_reducible rfl
          rotate_left
          ·simp only [Act.put, List.setIfInBounds_toArray, List.set_cons_zero, List.set_cons_succ, i64_w, i32_w]
           rfl
          refine pure_ (i := 1) (N := some 41) (v := ?_) (a' := ?_) #[true, true, false, false, false, false, false, false, false] rfl rfl (any_of HT_.out (by kernel_rfl)) (fun _ _ _ h => h) (Or.inl ⟨by rfl, ?_⟩) ?_ ?_
          rotate_left
          ·intro w'
           go_simp
           with_reducible rfl
          rotate_left
          ·simp only [Act.put, List.setIfInBounds_toArray, List.set_cons_zero, List.set_cons_succ, i64_w, i32_w]
           rfl
          refine pure_ (i := 2) (N := some 42) (v := ?_) (a' := ?_) #[true, true, true, false, false, false, false, false, false] rfl rfl (any_of HT_.out (by kernel_rfl)) (fun _ _ _ h => h) (Or.inl ⟨by rfl, ?_⟩) ?_ ?_
          rotate_left
          ·intro w'
           go_simp
           with_reducible rfl
          rotate_left
          ·simp only [Act.put, List.setIfInBounds_toArray, List.set_cons_zero, List.set_cons_succ, i64_w, i32_w]
           rfl
          refine take_ (i := 3) (N := some 43) (v := ?_) (a' := ?_) #[true, true, true, true, false, false, false, false, false] rfl rfl (take_ofW HT_.out HW_.out (by kernel_rfl)) (fun _ _ _ h => h) (Or.inl ⟨by rfl, ?_⟩) hHeld ?_ ?_
          rotate_left
          ·rintro w' ⟨s0, s1, s2, s3, s4⟩
           go_simp
           with_reducible rfl
          rotate_left
          ·simp only [Act.put, List.setIfInBounds_toArray, List.set_cons_zero, List.set_cons_succ, i64_w, i32_w]
           rfl
          refine take_ (i := 4) (N := some 44) (v := ?_) (a' := ?_) #[true, true, true, true, true, false, false, false, false] rfl rfl (take_ofW HT_.out HW_.out (by kernel_rfl)) (fun _ _ _ h => h) (Or.inl ⟨by rfl, ?_⟩) hHeld ?_ ?_
          rotate_left
          ·rintro w' ⟨s0, s1, s2, s3, s4⟩
           go_simp
           with_reducible rfl
          rotate_left
          ·simp only [Act.put, List.setIfInBounds_toArray, List.set_cons_zero, List.set_cons_succ, i64_w, i32_w]
           rfl
          refine one_ (i := 5) (N := some 45) #[true, true, true, true, true, true, false, false, false] rfl rfl (one_of HT_.out (by kernel_rfl)) (by decide) (fun K hK => ?_)
          refine value_ (w1 := ?_) (v := ?_) (by rfl) rfl ?_ ?_
          rotate_left 2
          ·go_simp
           constructor
           ·rfl
           ·rfl
          refine hK.out _ _ ⟨(blk_cell (blk_alloc BO.out _) 0).trans rfl, (blk_cell (blk_alloc BK.out _) 0).trans rfl, (blk_cell (blk_alloc BK.out _) 1).trans rfl, (blk_cell (blk_alloc BK.out _) 2).trans rfl, (blk_cell (blk_alloc BK.out _) 3).trans rfl⟩ (fun hHeld2 => ?_)
          clear hK K hHeld hHeld2
          refine norm_ (a' := ?_) ?_ ?_
          rotate_left
          ·show Act.put _ (some 45) _ = _
           simp only [Act.put, List.setIfInBounds_toArray, List.set_cons_zero, List.set_cons_succ, i64_w, i32_w]
           rfl
          refine last_ (i := 6) (N := some 46) #[true, true, true, true, true, true, true, false, false] rfl rfl (one_of HT_.out (by kernel_rfl)) (by decide) (fun K hK => ?_)
          refine Kd.S_append_step k44 (w0 := w0) w0.heap.size (by rfl) (.tmp 43) (.tmp 45) 25 44 (.agg #[(.int .i64 0), (.string ⟨#[]⟩), (.slice none 0 0), (.int .i64 0)]) 56 rfl Try.underlying25 info44 rfl (by decide) (by omega) u2 x2 (⟨(rd_T44 l0 a1).f0, (rd_T44 l0 a1).f1, x8, (rd_T44 l0 a1).f3⟩ : S44) [.int .i64 (rd_T44 l0 a1).f0, .string (rd_T44 l0 a1).f1, .slice A8 (rd_T44 l0 a1).f2.length c8, .int .i64 (rd_T44 l0 a1).f3] (fun k_ => (P0_ k_ ∨ w.heap.size ≤ k_) ∧ k_ ≠ go) (fun k_ => some k_ = (.slice A8 (rd_T44 l0 a1).f2.length c8 : Value).ownBlock) rfl rfl ?aP ?aK ?aF ?aO ?aB ?aS ?aL ?_
          (case aP => exact k44_mkM _ _ _ (⟨(rd_T44 l0 a1).f0, (rd_T44 l0 a1).f1, x8, (rd_T44 l0 a1).f3⟩ : S44) (Kd.R_tight rfl HL.out))
          (case aK => exact (fun k_ hk => ⟨⟨.inr (HL.out.1 k_ hk.symm), fun e_ => Kd.R_ne HL.out BO.out (by decide) (e_ ▸ hk)⟩, fun e_ => by obtain ⟨cl_, hcl⟩ := Kd.R_typed HL.out k_ hk.symm; exact (Kd.S_ne HO.out hcl (by decide)) e_⟩))
          (case aB => exact HB.out)
          (case aF => exact (fun k_ hk => ⟨.inr (Nat.le_trans HK.out.1 hk), fun e_ => by have := blk_lt BO.out; omega⟩))
          (case aO => exact Kd.S_mono (ok := (fun k_ => (((P0_ k_ ∨ w.heap.size ≤ k_) ∧ k_ ≠ go) ∧ k_ ≠ gb) ∧ some k_ ≠ ((.slice A8 (rd_T44 l0 a1).f2.length c8) : Value).ownBlock)) HO.out (fun k_ hk => ⟨hk.1.1, hk.2⟩))
          (case aS => exact HB.out.size)
          (case aL => have := H6.out; omega)
          intro v46 w13 ho hb hg hat
          rw [← NY2.out] at ho
          have n2_ := Aside0.mk (blk_grown BO.out hg (Kd.S_ne HO.out BO.out (by decide)))
          have nk_ := Aside0.mk (Kept.of_grown hg HK.out (fun k_ hk => show (P0_ k_ ∨ k_ = go) ∨ w.heap.size ≤ k_ from by rcases ((Kd.S_R HO.out).1 k_ hk).1.1.1 with p_ | p_; exact Or.inl (Or.inl p_); exact Or.inr p_))
          have no_ := Aside0.mk ho
          have nb_ := Aside0.mk hb
          clear ho hb hg hat HO HB HK HL BK BO hgo_ hcz_0 hcz_1 hcz_2 hcz_3
          have HO := no_
          have HB := nb_
          have HK := nk_
          have BO := n2_
          clear no_ nb_ nk_ n2_
          refine hK.out _ _ ?_
          clear hK K
          refine norm_ (a' := ?_) ?_ ?_
          rotate_left
          ·show Act.put _ (some 46) _ = _
           simp only [Act.put, List.setIfInBounds_toArray, List.set_cons_zero, List.set_cons_succ, i64_w, i32_w]
           rfl
          refine pure_ (i := 7) (N := some 47) (v := ?_) (a' := ?_) #[true, true, true, true, true, true, true, true, false] rfl rfl (any_of HT_.out (by kernel_rfl)) (fun _ _ _ h => h) (Or.inl ⟨by rfl, ?_⟩) ?_ ?_
          rotate_left
          ·intro w'
           go_simp
           with_reducible rfl
          rotate_left
          ·simp only [Act.put, List.setIfInBounds_toArray, List.set_cons_zero, List.set_cons_succ, i64_w, i32_w]
           rfl
          have hgo_ : w13.cell? ⟨go, 0, none⟩ = some u2 := (blk_cell BO.out 0).trans rfl
          have hfo_ : w13.frozen? ⟨go, 0, none⟩ = false := blk_frozen BO.out 0
          refine last_ (i := 8) (N := none) #[true, true, true, true, true, true, true, true, true] rfl rfl (one_of HT_.out (by kernel_rfl)) (by decide) (fun K hK => ?_)
          refine skip_ (w1 := (w13.setCell ⟨go, 0, none⟩ v46)) (by rfl) rfl ?_ ?_
          ·obtain ⟨Ao9, co9, eo9⟩ := Kd.S_slice HO.out
           subst eo9
           go_simp
           try rfl
          refine hK.out _ _ ?_
          clear hK K
          obtain ⟨w14, hw14⟩ : ∃ w_, w_ = w13.setCell ⟨go, 0, none⟩ v46 := ⟨_, rfl⟩
          rw [← hw14]
          have no_ : Aside0 (Kd.S k44 44 w14 w0.heap.size (fun k_ => (P0_ k_ ∨ w.heap.size ≤ k_) ∧ k_ ≠ go) v46 y2) := ⟨by rw [hw14]; exact Kd.S_far HO.out (p := ⟨go, 0, none⟩) (fun k_ hk => hk.2) _⟩
          have n2_ : Aside0 (w14.heap[go]? = some (.cells #[v46] 25 (0, 0))) := ⟨by rw [hw14]; exact blk_put BO.out 0 _ rfl⟩
          have nk_ : Aside0 (Kept w w14 (fun k_ => P0_ k_ ∨ k_ = go)) := ⟨by rw [hw14]; exact Kept.setCell HK.out (.inl (.inr rfl)) _⟩
          have nb_ : Aside0 (Below w0.heap.size w0 w14) := ⟨by rw [hw14]; exact below_set HB.out GO.out⟩
          clear HO HB HK BO hgo_ hfo_ hw14
          have HO := no_
          have HB := nb_
          have HK := nk_
          have BO := n2_
          clear no_ nb_ nk_ n2_
          obtain ⟨Ao9, co9, eo9⟩ := Kd.S_slice HO.out
          subst eo9
          have hgo_ : w14.cell? ⟨go, 0, none⟩ = some (.slice Ao9 y2.length co9) := (blk_cell BO.out 0).trans rfl
          have hfo_ : w14.frozen? ⟨go, 0, none⟩ = false := blk_frozen BO.out 0
          refine done_ (done_of HT_.out (by kernel_rfl)) ?_
          go_wp2
          go_ret
          exact ⟨by first | rfl | (simp [*] <;> rfl), _, (by (with_reducible repeat (first | refine blk_drewN ?_ _ | refine blk_drew ?_ | refine blk_alloc ?_ _)); exact BO.out), (by (with_reducible repeat (first | apply Kd.S_alloc | apply Kd.S_drewN | apply Kd.S_drew)); exact HO.out), (by repeat (first | (with_reducible first | exact HB.out | apply below_alloc | apply pw_below_drewN | apply below_drew1) | exact HB.out)), (by repeat (first | (with_reducible first | exact HK.out | apply Kept.alloc | apply Kept.drewN | apply Kept.drew) | exact HK.out))⟩
def impl_Turned.f (k : Nat) (l0 : List S44) : Option (List S44 × Bool) := (impl_ParticleOk.f k l0).bind fun t => if t = true then ((impl_turn.f k l0 (wrap64 ((l0.length : Int) - 1)) []).bind fun q => some (q.2, true)) else some ([], false)
theorem turned_ne {W : World} {base g : Nat} {ok : Nat → Prop} {v : Value} {cs : Array Value} (h : Kd.S k44 44 W base ok v []) (hb : W.heap[g]? = some (.cells cs 25 (0, 0))) (u : Value) : Kd.S k44 44 (W.setCell ⟨g, 0, none⟩ u) base (fun k_ => k_ ≠ g) v [] :=
  Kd.S_mono (Kd.S_far (p := ⟨g, 0, none⟩) (Kd.S_types h hb (t := 25) (by decide)) (fun _ hk => hk.2) u) (fun _ hk => hk.2)
set_option maxHeartbeats 8000000 in
set_option maxRecDepth 100000 in
theorem impl_Turned.calls (k : Nat) (A0 : Option Addr) (c0 : Nat) (l0 : List S44) (r1 : List S44) (r2 : Bool) (w : World) (hr0 : Kd.C k44 w A0 l0.length l0) (hc0 : l0.length ≤ c0) (h : impl_Turned.f k l0 = some (r1, r2)) :
    Calls Try.prog 23 #[.slice A0 l0.length c0] w fun e w' => ∃ v0_ : Value, e = .returned (.tuple #[v0_, .bool r2]) ∧ Kd.S k44 44 w' w.heap.size (fun _ => True) v0_ r1 ∧ Below w.heap.size w w' := by
  have hu44 := Try.underlying44
  have HR0 := Aside0.mk hr0
  have HC0 := Aside0.mk hc0
  have HB := Aside0.mk (Below.refl w.heap.size w)
  clear hr0 hc0
  obtain ⟨t, ht, h⟩ := Option.bind_eq_some_iff.1 h
  have HT := Aside0.mk ht
  clear ht
  cases t
  case true =>
    simp only [if_true] at h
    obtain ⟨⟨q1, q2⟩, hr, h⟩ := Option.bind_eq_some_iff.1 h
    have HQ := Aside0.mk hr
    clear hr
    simp only [Option.some.injEq, Prod.mk.injEq] at h
    obtain ⟨rfl, rfl⟩ := h
    obtain ⟨ji, hji⟩ : ∃ j_ : Int, wrap64 ((l0.length : Int) - 1) = j_ := ⟨_, rfl⟩
    rw [hji] at HQ
    have hjiw : IntKind.i64.wrap ((l0.length : Int) - 1) = ji := (i64_w _).trans hji
    go_enter Try.func23, Try.ntmps23
    go_wp2_with (first | ((with_reducible refine gate_callee (f := 12) rfl ?_); (try (refine gate_guard (by rfl) ?_; dsimp only)); refine goesL_ (some 6) rfl rfl Try.func12 (by kernel_rfl) rfl #[.slice A0 l0.length c0] rfl (by (try simp only [List.map_toArray, List.map_cons, List.map_nil]); first | done | rfl | (simp only [List.length_drop, List.length_take]; rfl)) ?_; (with_reducible refine (impl_ParticleOk.calls k A0 c0 l0 _ _ ?side1 HC0.out HT.out).mono ?_); (case side1 => exact Kd.C_below HR0.out (by repeat (first | (with_reducible first | exact HB.out | apply below_alloc | apply pw_below_drewN | apply below_drew1) | exact HB.out))); rintro e w1 ⟨rfl, hb⟩; refine ⟨_, rfl, ?_⟩; have nb_ := Aside0.mk (below_step (by repeat (first | (with_reducible first | exact HB.out | apply below_alloc | apply pw_below_drewN | apply below_drew1) | exact HB.out)) hb); clear hb HB; have HB := nb_; clear nb_) | ((with_reducible refine gate_dst (N := 8) rfl ?_); (try (refine gate_guard (by rfl) ?_; dsimp only)); refine Kd.S_lit k44 _ 44 ?hg (N := 8) ?hd (xs := ([] : List S44)) (inner := []) (ok := fun _ => True) (okp := fun _ => False) ?hr ?hp (fun _ hk => hk.elim) trivial (Below.refl _ _) (Nat.le_refl _) (by simp) ?_; (case hd => rfl); (case hg => rfl); (case hr => first | (go_simp; done) | (go_simp; rfl)); (case hp => exact (Reps.none _ _)); intro v8 w3 ho hb hg_ hnew_; clear hg_ hnew_; have no_ := Aside0.mk (Kd.S_lower ho (below_size (by repeat (first | (with_reducible first | exact HB.out | apply below_alloc | apply pw_below_drewN | apply below_drew1) | exact HB.out)))); have nb_ := Aside0.mk (below_step (by repeat (first | (with_reducible first | exact HB.out | apply below_alloc | apply pw_below_drewN | apply below_drew1) | exact HB.out)) hb); clear ho hb HB; have HO := no_; have HB := nb_; clear no_ nb_) | ((with_reducible refine gate_dst (N := 4) rfl ?_); (try (refine gate_guard (by rfl) ?_; dsimp only)); refine box_event ?hg (N := 4) ?hd (cs := #[.slice none 0 0]) (t := 25) ?hr ?_; (case hd => rfl); (case hg => rfl); (case hr => first | (go_simp; done) | (go_simp; rfl)); intro gb hg w6 hbox hb; have GE : Aside0 (w.heap.size ≤ gb) := ⟨by rw [hg]; exact (below_size (by repeat (first | (with_reducible first | exact HB.out | apply below_alloc | apply pw_below_drewN | apply below_drew1) | exact HB.out)))⟩; have nb_ := Aside0.mk (below_step (by repeat (first | (with_reducible first | exact HB.out | apply below_alloc | apply pw_below_drewN | apply below_drew1) | exact HB.out)) hb); have no_ := Aside0.mk (Kd.S_below (by (with_reducible repeat (first | apply Kd.S_alloc | apply Kd.S_drewN | apply Kd.S_drew)); exact HO.out) hb); have NE : Aside0 (∀ k_, (v8 : Value).ownBlock = some k_ → k_ ≠ gb) := ⟨fun k_ hk e_ => by have h_ := Kd.S_lt HO.out k_ hk; rw [e_, hg] at h_; exact Nat.lt_irrefl _ h_⟩; have BK := Aside0.mk hbox; clear hb hbox hg; clear HO HB; have HO := no_; have HB := nb_; clear no_ nb_; have hcz_0 : w6.cell? ⟨gb, 0, none⟩ = some (.slice none 0 0) := (blk_cell BK.out 0).trans rfl; have hfz_0 := blk_frozen BK.out 0) | ((with_reducible refine gate_store (t := 25) (p := 4) rfl ?_); refine store_event (t := 25) (p := 4) (v := ?vo) (w1 := (w6.setCell ⟨gb, 0, none⟩ v8)) ?hg ?ho ?hn ?hr ?_; (case ho => rfl); (case hg => rfl); (case hn => rfl); (case hr => (obtain ⟨Ao8, co8, eo8⟩ := Kd.S_slice HO.out; subst eo8; first | (go_simp; done) | (go_simp; rfl))); intro w8 hw; have n0_ : Aside0 (w8.heap[gb]? = some (.cells #[v8] 25 (0, 0))) := ⟨by rw [hw]; exact blk_put BK.out 0 _ rfl⟩; have nb_ : Aside0 (Below w.heap.size w w8) := ⟨by rw [hw]; exact below_set HB.out GE.out⟩; have no_ : Aside0 (Kd.S k44 44 w8 w.heap.size (fun k_ => k_ ≠ gb) v8 []) := ⟨by rw [hw]; exact turned_ne HO.out BK.out _⟩; clear hw hcz_0 hfz_0; clear BK HO HB; have BK := n0_; have HO := no_; have HB := nb_; clear n0_ no_ nb_; have hcz_0 : w8.cell? ⟨gb, 0, none⟩ = some v8 := (blk_cell BK.out 0).trans rfl; have hfz_0 := blk_frozen BK.out 0) | ((with_reducible refine gate_callee (f := 48) rfl ?_); (try (refine gate_guard (by rfl) ?_; dsimp only)); refine goesL_ (some 13) rfl rfl Try.func48 (by kernel_rfl) rfl #[.slice A0 l0.length c0, .int .i64 ji, .pointer (some ⟨gb, 0, none⟩)] rfl (by (try simp only [List.map_toArray, List.map_cons, List.map_nil]); first | done | (simp only [hji]; rfl) | rfl | (simp only [List.length_drop, List.length_take]; rfl)) ?_; (with_reducible refine (impl_turn.calls k A0 c0 l0 ji gb v8 [] q1 q2 (fun k_ => k_ ≠ gb) w _ ?side1 HR0.out HC0.out GE.out ?side2 (fun k_ hk => hk) ?side3 HQ.out).mono ?_); (case side1 => exact (by repeat (first | (with_reducible first | exact HB.out | apply below_alloc | apply pw_below_drewN | apply below_drew1) | exact HB.out))); (case side2 => exact (by (with_reducible repeat (first | refine blk_drewN ?_ _ | refine blk_drew ?_ | refine blk_alloc ?_ _)); exact BK.out)); (case side3 => exact (by (with_reducible repeat (first | apply Kd.S_alloc | apply Kd.S_drewN | apply Kd.S_drew)); exact HO.out)); rintro e w9 ⟨rfl, v9, hbk, ho, hb, hkp⟩; refine ⟨_, rfl, ?_⟩; obtain ⟨A9, c9, rfl⟩ := Kd.S_slice ho; have no_ := Aside0.mk (Kd.S_mono (ok' := fun _ => True) ho (fun _ _ => trivial)); have nb_ := Aside0.mk hb; have n0_ := Aside0.mk hbk; clear ho hb hkp hbk hcz_0 hfz_0; clear BK HO HB; have BK := n0_; have HO := no_; have HB := nb_; clear n0_ no_ nb_; have hcz_0 : w9.cell? ⟨gb, 0, none⟩ = some (.slice A9 q2.length c9) := (blk_cell BK.out 0).trans rfl))
    go_ret2
    exact ⟨_, by first | rfl | (simp [*] <;> rfl), (by (with_reducible repeat (first | apply Kd.S_alloc | apply Kd.S_drewN | apply Kd.S_drew)); exact HO.out), (by repeat (first | (with_reducible first | exact HB.out | apply below_alloc | apply pw_below_drewN | apply below_drew1) | exact HB.out))⟩
  case false =>
    simp only [Bool.false_eq_true, if_false] at h
    simp only [Option.some.injEq, Prod.mk.injEq] at h
    obtain ⟨rfl, rfl⟩ := h
    go_enter Try.func23, Try.ntmps23
    go_wp2_with (first | ((with_reducible refine gate_callee (f := 12) rfl ?_); (try (refine gate_guard (by rfl) ?_; dsimp only)); refine goesL_ (some 6) rfl rfl Try.func12 (by kernel_rfl) rfl #[.slice A0 l0.length c0] rfl (by (try simp only [List.map_toArray, List.map_cons, List.map_nil]); first | done | rfl | (simp only [List.length_drop, List.length_take]; rfl)) ?_; (with_reducible refine (impl_ParticleOk.calls k A0 c0 l0 _ _ ?side1 HC0.out HT.out).mono ?_); (case side1 => exact Kd.C_below HR0.out (by repeat (first | (with_reducible first | exact HB.out | apply below_alloc | apply pw_below_drewN | apply below_drew1) | exact HB.out))); rintro e w1 ⟨rfl, hb⟩; refine ⟨_, rfl, ?_⟩; have nb_ := Aside0.mk (below_step (by repeat (first | (with_reducible first | exact HB.out | apply below_alloc | apply pw_below_drewN | apply below_drew1) | exact HB.out)) hb); clear hb HB; have HB := nb_; clear nb_))
    go_ret2
    exact ⟨_, by first | rfl | (simp [*] <;> rfl), Kd.S_nil _ _ _ _ _, (by repeat (first | (with_reducible first | exact HB.out | apply below_alloc | apply pw_below_drewN | apply below_drew1) | exact HB.out))⟩

end Go.Proofs.Ytaliphegdclkfaa.PU
