-- Printed by this session's pdrive.py over the kit's printer.
import Derived.Test.YtaliphegdclkfaaPLx0
import Derived.Test.YtaliphegdclkfaaPLx7
import Derived.Test.YtaliphegdclkfaaPLx8
import Derived.Test.YtaliphegdclkfaaPLx9
namespace Go.Proofs.Ytaliphegdclkfaa.PL
open Go.RowKit Go.Proofs.YtaliphegdclkfaaW.PrintWords Go.Proofs.YtaliphegdclkfaaW.PrintLast Go.Proofs.YtaliphegdclkfaaW.PrintMore Go.Proofs.YtaliphegdclkfaaW.WordsB
attribute [local go_sem] max2_int min2_int max_two min_two max_three min_three max_four min_four   -- for this text's walks alone
set_option linter.unusedVariables false
set_option linter.unusedSimpArgs false

/-! ### impl_Nullable: function 15 -/
open Go.Proofs.YtaliphegdclkfaaW.IntMaps in
set_option maxHeartbeats 8000000 in
set_option maxRecDepth 100000 in
theorem impl_lead.calls (gx : Nat) (pn vn vf vl : Value) (aw : Addr) (cw : Nat) (ws : List Nat) (A1 : Option Addr) (c1 : Nat) (l1 : List Int) (A2 : Option Addr) (c2 : Nat) (l2 : List Int) (w0 w : World) (hB : Below w0.heap.size w0 w) (hbx : w.heap[gx]? = some (.cells #[pn, vn, vf, vl, .slice (some aw) ws.length cw] 77 (0, 0))) (hw : kMap.C w (some aw) ws.length ws) (hm : Maps w ws) (hwb : ∀ b ∈ ws, w0.heap.size ≤ b) (h1 : Kd.C (Kd.int .i64) w A1 l1.length l1) (h2 : Kd.C (Kd.int .i64) w A2 l2.length l2) (hr : ∀ z ∈ l1, 0 ≤ z ∧ z < (ws.length : Int)) (hl1 : l1.length ≤ 1000000) (hl2 : l2.length ≤ 1000000) :
    Calls Try.prog 65 #[.pointer (some ⟨gx, 0, none⟩), .slice A1 l1.length c1, .slice A2 l2.length c2] w fun e w' => e = .returned (.tuple #[]) ∧ Maps w' ws ∧ Below w0.heap.size w0 w' ∧ Kept w w' (fun k_ => k_ ∈ ws) := by
  have F1 := Aside0.mk (reads_kept (fun h => h) (by decide) h1 hm)
  have F2 := Aside0.mk (reads_kept (fun h => h) (by decide) h2 hm)
  have FW := Aside0.mk (reads_kept (fun h => h) (by decide) hw hm)
  have FX := Aside0.mk (block_kept hbx hm)
  have HM := Aside0.mk hm
  have HWB := Aside0.mk hwb
  have HRG := Aside0.mk hr
  have HL1 := Aside0.mk hl1
  have HL2 := Aside0.mk hl2
  have HK := Aside0.mk (Kept.refl w (fun k_ => k_ ∈ ws))
  have HB := Aside0.mk hB
  clear hB hbx hw hm hwb h1 h2 hr hl1 hl2
  obtain ⟨n1, hn1⟩ : ∃ n, n = l1.length := ⟨_, rfl⟩
  obtain ⟨n2, hn2⟩ : ∃ n, n = l2.length := ⟨_, rfl⟩
  have N1 := Aside0.mk hn1
  have N2 := Aside0.mk hn2
  rw [← hn1, ← hn2]
  clear hn1 hn2
  go_enter Try.func65, Try.ntmps65
  go_wp2
  go_loopg [12] (n1 + 1) (fun kq v12 w' => ∃ (x12 : Int), v12 = .int .i64 x12 ∧ Aside0 (0 ≤ x12 ∧ x12 ≤ (n1 : Int) ∧ (kq : Int) + x12 = (n1 : Int) + 1) ∧ Aside0 (Maps w' ws) ∧ Aside0 (Kept w w' (fun k_ => k_ ∈ ws)) ∧ Aside0 (Below w0.heap.size w0 w'))
  case atStart => exact ⟨0, (by first | rfl | (simp; done) | (simp [*]; done)), ⟨by omega, by omega, by omega⟩, ⟨HM.out⟩, ⟨(by repeat (first | (with_reducible first | exact HK.out | apply Kept.alloc | apply Kept.drewN | apply Kept.drew) | exact HK.out))⟩, ⟨(by repeat (first | (with_reducible first | exact HB.out | apply below_alloc | apply pw_below_drewN | apply below_drew1) | exact HB.out))⟩⟩
  case round =>
    clear HM HK HB
    obtain ⟨x12, rfl, HX, HM, HK, HB⟩ := hrel
    cases gk with
    | zero => exact absurd HX.out (by omega)
    | succ k1 =>
      by_cases hi : x12 < (n1 : Int)
      · have c1b0 : decide (x12 < (n1 : Int)) = true := decide_eq_true hi
        have h0 : 0 ≤ x12 := HX.out.1
        have F1w := F1.out wr HK.out
        rw [← N1.out] at F1w
        obtain ⟨ad1, e1, hx1⟩ := Kd.at_int F1w x12 h0 hi
        cases e1
        obtain ⟨za, hza⟩ : ∃ z, z = rd l1 x12 := ⟨_, rfl⟩
        rw [← hza] at hx1
        have hzr : 0 ≤ za ∧ za < (ws.length : Int) := by
          have hmem : rd l1 x12 ∈ l1 := by
            have hlt : x12.toNat < l1.length := by have := N1.out; omega
            unfold rd
            rw [List.getD_eq_getElem?_getD, List.getElem?_eq_getElem hlt]
            exact List.getElem_mem hlt
          rw [hza]
          exact HRG.out _ hmem
        have HZ := Aside0.mk hzr
        have p1 := eq_true h0
        have q1 := eq_true hi
        clear hi h0 F1w hza hzr
        go_wp2
        go_loopg [18] (n2 + 1) (fun kq v18 w' => ∃ (x18 : Int), v18 = .int .i64 x18 ∧ Aside0 (0 ≤ x18 ∧ x18 ≤ (n2 : Int) ∧ (kq : Int) + x18 = (n2 : Int) + 1) ∧ Aside0 (Maps w' ws) ∧ Aside0 (Kept w w' (fun k_ => k_ ∈ ws)) ∧ Aside0 (Below w0.heap.size w0 w'))
        case atStart => exact ⟨0, (by first | rfl | (simp; done) | (simp [*]; done)), ⟨by omega, by omega, by omega⟩, ⟨HM.out⟩, ⟨(by repeat (first | (with_reducible first | exact HK.out | apply Kept.alloc | apply Kept.drewN | apply Kept.drew) | exact HK.out))⟩, ⟨(by repeat (first | (with_reducible first | exact HB.out | apply below_alloc | apply pw_below_drewN | apply below_drew1) | exact HB.out))⟩⟩
        case round =>
          clear HM HK HB hx1
          obtain ⟨x18, rfl, HY, HM, HK, HB⟩ := hrel
          cases gk with
          | zero => exact absurd HY.out (by omega)
          | succ k2 =>
            by_cases hj : x18 < (n2 : Int)
            · have c2b0 : decide (x18 < (n2 : Int)) = true := decide_eq_true hj
              have h0 : 0 ≤ x18 := HY.out.1
              have F2w := F2.out wr HK.out
              rw [← N2.out] at F2w
              obtain ⟨ad2, e2, hx2⟩ := Kd.at_int F2w x18 h0 hj
              cases e2
              obtain ⟨zb, hzb⟩ : ∃ z, z = rd l2 x18 := ⟨_, rfl⟩
              rw [← hzb] at hx2
              have FXw := FX.out wr HK.out
              have hcx_4 : wr.cell? ⟨gx, 4, none⟩ = some (.slice (some aw) ws.length cw) := (blk_cell FXw 4).trans rfl
              obtain ⟨adw, ew, hxw⟩ := at_map (FW.out wr HK.out) za HZ.out.1 HZ.out.2
              cases ew
              obtain ⟨bz, hbz⟩ : ∃ b, b = rdOf 0 ws za := ⟨_, rfl⟩
              rw [← hbz] at hxw
              have hin : bz ∈ ws := by
                have hz := HZ.out
                have hlt : za.toNat < ws.length := by omega
                rw [hbz]
                unfold rdOf
                rw [List.getD_eq_getElem?_getD, List.getElem?_eq_getElem hlt]
                exact List.getElem_mem hlt
              have HIN := Aside0.mk hin
              have HMZ := Aside0.mk (HM.out _ hin)
              have p2 := eq_true h0
              have q2 := eq_true hj
              have p3 := eq_true HZ.out.1
              have q3 := eq_true HZ.out.2
              clear hj h0 F2w hzb FXw hbz hin
              go_wp2_with (first | ((with_reducible refine gate_map (t := 78) rfl ?_); refine wpList_mapPut rfl 78 _ _ _ rfl 2 4 Try.underlying78 Try.underlying2 bz zb rfl rfl HMZ.out ?_; intro w5 him hg; have nm_ := Aside0.mk (Maps.put HM.out him hg); have nk_ := Aside0.mk (Kept.of_grown hg (by repeat (first | (with_reducible first | exact HK.out | apply Kept.alloc | apply Kept.drewN | apply Kept.drew) | exact HK.out)) (fun k_ hk => .inl (by injection hk with hk; rw [← hk]; exact HIN.out))); have nb_ := Aside0.mk (Below.grown (by repeat (first | (with_reducible first | exact HB.out | apply below_alloc | apply pw_below_drewN | apply below_drew1) | exact HB.out)) hg (below_size (by repeat (first | (with_reducible first | exact HB.out | apply below_alloc | apply pw_below_drewN | apply below_drew1) | exact HB.out))) (fun k_ hk => by injection hk with hk; rw [← hk]; exact HWB.out _ HIN.out)); clear him hg HMZ hcx_4 hxw hx2; clear HM HK HB; have HM := nm_; have HK := nk_; have HB := nb_; clear nm_ nk_ nb_))
              go_roundg k2
              case measure => omega
              case rel => exact ⟨wrap64 (x18 + 1), (by first | rfl | (simp; done) | (simp [*]; done)), ⟨by have := HY.out; have := HL2.out; have := N2.out; rw [show wrap64 (x18 + 1) = x18 + 1 by unfold wrap64; omega]; have := of_eq_true q2; exact ⟨by omega, by omega, by omega⟩⟩, ⟨HM.out⟩, ⟨(by repeat (first | (with_reducible first | exact HK.out | apply Kept.alloc | apply Kept.drewN | apply Kept.drew) | exact HK.out))⟩, ⟨(by repeat (first | (with_reducible first | exact HB.out | apply below_alloc | apply pw_below_drewN | apply below_drew1) | exact HB.out))⟩⟩
            · have c2b0 : decide (x18 < (n2 : Int)) = false := decide_eq_false hj
              clear hj
              go_wp2
              go_roundg k1
              case measure => omega
              case rel => exact ⟨wrap64 (x12 + 1), (by first | rfl | (simp; done) | (simp [*]; done)), ⟨by have := HX.out; have := HL1.out; have := N1.out; rw [show wrap64 (x12 + 1) = x12 + 1 by unfold wrap64; omega]; have := of_eq_true q1; exact ⟨by omega, by omega, by omega⟩⟩, ⟨HM.out⟩, ⟨(by repeat (first | (with_reducible first | exact HK.out | apply Kept.alloc | apply Kept.drewN | apply Kept.drew) | exact HK.out))⟩, ⟨(by repeat (first | (with_reducible first | exact HB.out | apply below_alloc | apply pw_below_drewN | apply below_drew1) | exact HB.out))⟩⟩
      · have c1b0 : decide (x12 < (n1 : Int)) = false := decide_eq_false hi
        clear hi
        go_wp2
        first | go_end0 | ((try simp only [Exit.inBlock, Exit.then]); refine bodyPost_ret (results_none rfl _ _ _) rfl ?_)
        exact ⟨by first | rfl | (simp [*] <;> rfl), HM.out, (by repeat (first | (with_reducible first | exact HB.out | apply below_alloc | apply pw_below_drewN | apply below_drew1) | exact HB.out)), (by repeat (first | (with_reducible first | exact HK.out | apply Kept.alloc | apply Kept.drewN | apply Kept.drew) | exact HK.out))⟩
open Go.Proofs.YtaliphegdclkfaaW.IntMaps
set_option maxHeartbeats 8000000 in
set_option maxRecDepth 100000 in
theorem impl_whole.calls (gx : Nat) (A0 : Option Addr) (n0 c0 : Nat) (vn vf vl vw : Value) (w : World) (hbx : w.heap[gx]? = some (.cells #[.slice A0 n0 c0, vn, vf, vl, vw] 77 (0, 0))) (hpos : 0 < n0) (hmax : n0 ≤ 1000000) :
    Calls Try.prog 69 #[.pointer (some ⟨gx, 0, none⟩)] w fun e w' => e = .returned (.int .i64 ((n0 : Int) - 1)) ∧ Drawn0 w w' := by
  have hcx_0 : w.cell? ⟨gx, 0, none⟩ = some (.slice A0 n0 c0) := (blk_cell hbx 0).trans rfl
  have hww : wrap64 ((n0 : Int) - 1) = (n0 : Int) - 1 := by unfold wrap64; omega
  have HX := Aside0.mk hbx
  have HP := Aside0.mk hpos
  have HM := Aside0.mk hmax
  clear hbx hpos hmax
  go_enter Try.func69, Try.ntmps69
  go_wp2
  go_ret
  exact ⟨by first | rfl | (simp [hww]; done) | (simp [*] <;> rfl), by repeat (first | exact Drawn0.refl _ | apply Drawn0.step)⟩
def impl_mayEnd.T4 : Bool × List (List Nat × List Nat) := (true, [([], []), ([0], [0]), ([1], [1]), ([2], [2]), ([3, 2], [2, 3]), ([4, 2], [2, 4]), ([5, 2], [2, 5]), ([2], [2]), ([7, 2, 2], [2, 7]), ([6, 8, 2], [2, 6, 8]), ([9, 2], [2, 9]), ([2, 10], [2, 10]), ([11, 8], [11]), ([12], [12]), ([13, 12], [12, 13]), ([14, 12, 12], [12, 14]), ([15], [15]), ([16, 15], [15, 16]), ([17, 15], [15, 17]), ([18, 15], [15, 18]), ([15], [15]), ([20, 15, 15], [15, 20]), ([19, 21, 15], [15, 19, 21]), ([22, 15], [15, 22]), ([15], [15]), ([23, 24, 21, 15], [15, 23, 24]), ([15, 25, 12], [12, 15, 25]), ([12, 26], [12, 26])])
def impl_mayEnd.B4 : List Nat := [0, 1, 3, 7, 15, 31, 63, 7, 135, 511, 1023, 2047, 4095, 8191, 16383, 32767, 65535, 131071, 262143, 524287, 65535, 1114111, 4194303, 8388607, 65535, 33554431, 67108863, 134217727]
theorem impl_mayEnd.tab4 : rtab .any (opsOf Try.f41 4) = impl_mayEnd.T4 := by kernel_rfl
theorem impl_mayEnd.bits4 : waitsOk impl_mayEnd.T4.2 impl_mayEnd.B4 = true := by kernel_rfl
set_option maxHeartbeats 8000000 in
set_option maxRecDepth 100000 in
theorem impl_mayEnd.calls (gx : Nat) (A0 : Option Addr) (n0 c0 : Nat) (an : Addr) (cn : Nat) (nl : List Bool) (vf vl vw : Value) (A1 : Option Addr) (c1 : Nat) (w : World) (hbx : w.heap[gx]? = some (.cells #[.slice A0 n0 c0, .slice (some an) nl.length cn, vf, vl, vw] 77 (0, 0))) (hn : Kd.bool.C w (some an) nl.length nl) (h1 : Kd.C (Kd.int .i64) w A1 1 [-1]) (hlen : nl.length = n0) (hpos : 0 < n0) (hmax : n0 ≤ 1000000) :
    Calls Try.prog 41 #[.pointer (some ⟨gx, 0, none⟩), .slice A1 1 c1] w fun e w' => e = .returned (.bool (rdOf false nl ((n0 : Int) - 1))) ∧ Drawn0 w w' := by
  obtain ⟨ad1, e1, hx1⟩ := Kd.at_int h1 0 (by decide) (by decide)
  cases e1
  have hrd : rd [(-1 : Int)] 0 = -1 := rfl
  rw [hrd] at hx1
  obtain ⟨m0, hm0⟩ : ∃ z : Int, z = (n0 : Int) - 1 := ⟨_, rfl⟩
  have h0 : 0 ≤ m0 := by omega
  have hj : m0 < (nl.length : Int) := by omega
  obtain ⟨adn, en, hxn⟩ := Kd.at_bool hn m0 h0 hj
  cases en
  have hcx_1 : w.cell? ⟨gx, 1, none⟩ = some (.slice (some an) nl.length cn) := (blk_cell hbx 1).trans rfl
  have HX := Aside0.mk hbx
  have HP := Aside0.mk hpos
  have HM := Aside0.mk hmax
  have HM0 := Aside0.mk hm0
  have p1 := eq_true h0
  have q1 := eq_true hj
  rw [← hm0]
  clear hbx hpos hmax hm0 h0 hj hn h1 hrd hlen
  obtain ⟨b, hb⟩ : ∃ b, b = rdOf false nl m0 := ⟨_, rfl⟩
  rw [← hb] at hxn ⊢
  clear hb
  cases b
  case true =>
    go_enter Try.func41, Try.ntmps41
    go_wp2
    go_loopg [9] 3 (fun kq v9 w' => ∃ x9 : Int, v9 = .int .i64 x9 ∧ Aside0 ((kq : Int) + x9 = 3 ∧ (x9 = 0)) ∧ Aside0 (Drawn0 w w'))
    case atStart => exact ⟨0, (by first | rfl | (simp; done) | (simp [*]; done)), ⟨by omega, by omega⟩, ⟨by repeat (first | exact Drawn0.refl _ | apply Drawn0.step)⟩⟩
    case round =>
      obtain ⟨x9, rfl, HX9, HD⟩ := hrel
      cases gk with
      | zero => exact absurd HX9.out (by omega)
      | succ k1 =>
        obtain rfl : x9 = 0 := by have := HX9.out; omega
        obtain ⟨nd, hnd⟩ := HD.out
        subst hnd
        clear HD
        have hx1w : (w.drewN nd).cell? ad1 = some (.int .i64 (-1)) := by have h_ := hx1; rw [show (0 : Int).toNat = 0 from rfl, Addr.add_zero'] at h_; exact h_
        go_upto_region 4 with fail
        have hcn : (w.drewN nd).cell? ⟨gx, 1, none⟩ = some (.slice (some an) nl.length cn) := hcx_1
        have hxm : (w.drewN nd).cell? (an.add m0.toNat) = some (.bool true) := hxn
        have HBW : Aside0 ((w.drewN nd).heap[gx]? = some (.cells #[.slice A0 n0 c0, .slice (some an) nl.length cn, vf, vl, vw] 77 (0, 0))) := ⟨HX.out⟩
        refine start_ (n := 28) (S := fun w' => w'.cell? ⟨gx, 1, none⟩ = some (.slice (some an) nl.length cn) ∧ w'.cell? (an.add m0.toNat) = some (.bool true)) (ds := []) (bL 28 0) (by kernel_rfl) rfl (by kernel_rfl) ⟨hcn, hxm⟩ (fun hHeld => ?_)
        refine with_tabW impl_mayEnd.tab4 impl_mayEnd.bits4 (fun HT_ HW_ => ?_)
        refine pure_ (i := 0) (N := some 13) (v := ?_) (a' := ?_) (bL 28 1) rfl rfl (any_of HT_.out (by kernel_rfl)) (fun _ _ _ h => h) (Or.inl ⟨by rfl, ?_⟩) ?_ ?_
        rotate_left
        ·intro w'
         go_simp
         with_reducible rfl
        rotate_left
        ·simp only [Act.put, List.setIfInBounds_toArray, List.set_cons_zero, List.set_cons_succ, i64_w, i32_w]
         rfl
        refine pure_ (i := 1) (N := some 14) (v := ?_) (a' := ?_) (bL 28 3) rfl rfl (any_of HT_.out (by kernel_rfl)) (fun _ _ _ h => h) (Or.inl ⟨by rfl, ?_⟩) ?_ ?_
        rotate_left
        ·intro w'
         go_simp
         with_reducible rfl
        rotate_left
        ·simp only [Act.put, List.setIfInBounds_toArray, List.set_cons_zero, List.set_cons_succ, i64_w, i32_w]
         rfl
        refine pure_ (i := 2) (N := some 15) (v := ?_) (a' := ?_) (bL 28 7) rfl rfl (any_of HT_.out (by kernel_rfl)) (fun _ _ _ h => h) (Or.inl ⟨by rfl, ?_⟩) ?_ ?_
        rotate_left
        ·intro w'
         go_simp
         with_reducible rfl
        rotate_left
        ·simp only [Act.put, List.setIfInBounds_toArray, List.set_cons_zero, List.set_cons_succ, i64_w, i32_w]
         rfl
        refine pure_ (i := 3) (N := some 16) (v := ?_) (a' := ?_) (bL 28 15) rfl rfl (any_of HT_.out (by kernel_rfl)) (fun _ _ _ h => h) (Or.inl ⟨by rfl, ?_⟩) ?_ ?_
        rotate_left
        ·intro w'
         go_simp
         with_reducible rfl
        rotate_left
        ·simp only [Act.put, List.setIfInBounds_toArray, List.set_cons_zero, List.set_cons_succ, i64_w, i32_w]
         rfl
        refine pure_ (i := 4) (N := some 17) (v := ?_) (a' := ?_) (bL 28 31) rfl rfl (any_of HT_.out (by kernel_rfl)) (fun _ _ _ h => h) (Or.inl ⟨by rfl, ?_⟩) ?_ ?_
        rotate_left
        ·intro w'
         go_simp
         with_reducible rfl
        rotate_left
        ·simp only [Act.put, List.setIfInBounds_toArray, List.set_cons_zero, List.set_cons_succ, i64_w, i32_w]
         rfl
        refine pure_ (i := 5) (N := some 18) (v := ?_) (a' := ?_) (bL 28 63) rfl rfl (any_of HT_.out (by kernel_rfl)) (fun _ _ _ h => h) (Or.inl ⟨by rfl, ?_⟩) ?_ ?_
        rotate_left
        ·intro w'
         go_simp
         with_reducible rfl
        rotate_left
        ·simp only [Act.put, List.setIfInBounds_toArray, List.set_cons_zero, List.set_cons_succ, i64_w, i32_w]
         rfl
        refine take_ (i := 6) (N := some 19) (v := ?_) (a' := ?_) (bL 28 127) rfl rfl (take_ofW HT_.out HW_.out (by kernel_rfl)) (fun _ _ _ h => h) (Or.inl ⟨by rfl, ?_⟩) hHeld ?_ ?_
        rotate_left
        ·rintro w' ⟨s0, s1⟩
         go_simp
         with_reducible rfl
        rotate_left
        ·simp only [Act.put, List.setIfInBounds_toArray, List.set_cons_zero, List.set_cons_succ, i64_w, i32_w]
         rfl
        refine pure_ (i := 7) (N := some 20) (v := ?_) (a' := ?_) (bL 28 255) rfl rfl (any_of HT_.out (by kernel_rfl)) (fun _ _ _ h => h) (Or.inl ⟨by rfl, ?_⟩) ?_ ?_
        rotate_left
        ·intro w'
         go_simp
         with_reducible rfl
        rotate_left
        ·simp only [Act.put, List.setIfInBounds_toArray, List.set_cons_zero, List.set_cons_succ, i64_w, i32_w]
         rfl
        refine one_ (i := 8) (N := some 21) (bL 28 511) rfl rfl (one_of HT_.out (by kernel_rfl)) (by decide) (fun K hK => ?_)
        refine goes_ (f := 69) Try.func69 (by kernel_rfl) rfl #[.pointer (some ⟨gx, 0, none⟩)] (by rfl) rfl rfl (by (try simp only [List.map_toArray, List.map_cons, List.map_nil]); first | done | rfl | (simp only [List.length_drop, List.length_take]; rfl)) ?_
        (with_reducible refine (impl_whole.calls gx A0 n0 c0 (.slice (some an) nl.length cn) vf vl vw _ ?sx1 HP.out HM.out).mono ?_)
        case sx1 => exact HX.out
        rintro e w5 ⟨rfl, ⟨nd2, rfl⟩⟩
        refine ⟨_, rfl, ?_⟩
        rw [← HM0.out]
        refine hK.out _ _ hHeld (fun hHeld2 => ?_)
        clear hK K hHeld
        have hHeld := hHeld2
        clear hHeld2
        refine norm_ (a' := ?_) ?_ ?_
        rotate_left
        ·show Act.put _ (some 21) _ = _
         simp only [Act.put, List.setIfInBounds_toArray, List.set_cons_zero, List.set_cons_succ, i64_w, i32_w]
         rfl
        refine pure_ (i := 9) (N := some 22) (v := ?_) (a' := ?_) (bL 28 1023) rfl rfl (any_of HT_.out (by kernel_rfl)) (fun _ _ _ h => h) (Or.inl ⟨by rfl, ?_⟩) ?_ ?_
        rotate_left
        ·intro w'
         go_simp
         with_reducible rfl
        rotate_left
        ·simp only [Act.put, List.setIfInBounds_toArray, List.set_cons_zero, List.set_cons_succ, i64_w, i32_w]
         rfl
        refine take_ (i := 10) (N := some 23) (v := ?_) (a' := ?_) (bL 28 2047) rfl rfl (take_ofW HT_.out HW_.out (by kernel_rfl)) (fun _ _ _ h => h) (Or.inl ⟨by rfl, ?_⟩) hHeld ?_ ?_
        rotate_left
        ·rintro w' ⟨s0, s1⟩
         go_simp
         with_reducible rfl
        rotate_left
        ·simp only [Act.put, List.setIfInBounds_toArray, List.set_cons_zero, List.set_cons_succ, i64_w, i32_w]
         rfl
        refine pure_ (i := 11) (N := some 24) (v := ?_) (a' := ?_) (bL 28 4095) rfl rfl (any_of HT_.out (by kernel_rfl)) (fun _ _ _ h => h) (Or.inl ⟨by rfl, ?_⟩) ?_ ?_
        rotate_left
        ·intro w'
         go_simp
         with_reducible rfl
        rotate_left
        ·simp only [Act.put, List.setIfInBounds_toArray, List.set_cons_zero, List.set_cons_succ, i64_w, i32_w]
         rfl
        refine pure_ (i := 12) (N := some 25) (v := ?_) (a' := ?_) (bL 28 8191) rfl rfl (any_of HT_.out (by kernel_rfl)) (fun _ _ _ h => h) (Or.inl ⟨by rfl, ?_⟩) ?_ ?_
        rotate_left
        ·intro w'
         go_simp
         with_reducible rfl
        rotate_left
        ·simp only [Act.put, List.setIfInBounds_toArray, List.set_cons_zero, List.set_cons_succ, i64_w, i32_w]
         rfl
        refine pure_ (i := 13) (N := some 26) (v := undef) (a' := ?_) (bL 28 16383) rfl rfl (any_of HT_.out (by kernel_rfl)) (fun _ _ _ h => h) (Or.inr ⟨by rfl, rfl⟩) ?_ ?_
        rotate_left
        ·simp only [Act.put, List.setIfInBounds_toArray, List.set_cons_zero, List.set_cons_succ, i64_w, i32_w]
         rfl
        refine pure_ (i := 14) (N := some 27) (v := undef) (a' := ?_) (bL 28 32767) rfl rfl (any_of HT_.out (by kernel_rfl)) (fun _ _ _ h => h) (Or.inr ⟨by rfl, rfl⟩) ?_ ?_
        rotate_left
        ·simp only [Act.put, List.setIfInBounds_toArray, List.set_cons_zero, List.set_cons_succ, i64_w, i32_w]
         rfl
        refine pure_ (i := 15) (N := some 28) (v := undef) (a' := ?_) (bL 28 65535) rfl rfl (any_of HT_.out (by kernel_rfl)) (fun _ _ _ h => h) (Or.inr ⟨by rfl, rfl⟩) ?_ ?_
        rotate_left
        ·simp only [Act.put, List.setIfInBounds_toArray, List.set_cons_zero, List.set_cons_succ, i64_w, i32_w]
         rfl
        refine pure_ (i := 16) (N := some 29) (v := undef) (a' := ?_) (bL 28 131071) rfl rfl (any_of HT_.out (by kernel_rfl)) (fun _ _ _ h => h) (Or.inr ⟨by rfl, rfl⟩) ?_ ?_
        rotate_left
        ·simp only [Act.put, List.setIfInBounds_toArray, List.set_cons_zero, List.set_cons_succ, i64_w, i32_w]
         rfl
        refine pure_ (i := 17) (N := some 30) (v := undef) (a' := ?_) (bL 28 262143) rfl rfl (any_of HT_.out (by kernel_rfl)) (fun _ _ _ h => h) (Or.inr ⟨by rfl, rfl⟩) ?_ ?_
        rotate_left
        ·simp only [Act.put, List.setIfInBounds_toArray, List.set_cons_zero, List.set_cons_succ, i64_w, i32_w]
         rfl
        refine pure_ (i := 18) (N := some 31) (v := undef) (a' := ?_) (bL 28 524287) rfl rfl (any_of HT_.out (by kernel_rfl)) (fun _ _ _ h => h) (Or.inr ⟨by rfl, rfl⟩) ?_ ?_
        rotate_left
        ·simp only [Act.put, List.setIfInBounds_toArray, List.set_cons_zero, List.set_cons_succ, i64_w, i32_w]
         rfl
        refine pure_ (i := 19) (N := some 32) (v := undef) (a' := ?_) (bL 28 1048575) rfl rfl (any_of HT_.out (by kernel_rfl)) (fun _ _ _ h => h) (Or.inr ⟨by rfl, rfl⟩) ?_ ?_
        rotate_left
        ·simp only [Act.put, List.setIfInBounds_toArray, List.set_cons_zero, List.set_cons_succ, i64_w, i32_w]
         rfl
        refine pure_ (i := 20) (N := some 33) (v := undef) (a' := ?_) (bL 28 2097151) rfl rfl (any_of HT_.out (by kernel_rfl)) (fun _ _ _ h => h) (Or.inr ⟨by rfl, rfl⟩) ?_ ?_
        rotate_left
        ·simp only [Act.put, List.setIfInBounds_toArray, List.set_cons_zero, List.set_cons_succ, i64_w, i32_w]
         rfl
        refine pure_ (i := 21) (N := some 34) (v := undef) (a' := ?_) (bL 28 4194303) rfl rfl (any_of HT_.out (by kernel_rfl)) (fun _ _ _ h => h) (Or.inr ⟨by rfl, rfl⟩) ?_ ?_
        rotate_left
        ·simp only [Act.put, List.setIfInBounds_toArray, List.set_cons_zero, List.set_cons_succ, i64_w, i32_w]
         rfl
        refine pure_ (i := 22) (N := some 35) (v := undef) (a' := ?_) (bL 28 8388607) rfl rfl (any_of HT_.out (by kernel_rfl)) (fun _ _ _ h => h) (Or.inr ⟨by rfl, rfl⟩) ?_ ?_
        rotate_left
        ·simp only [Act.put, List.setIfInBounds_toArray, List.set_cons_zero, List.set_cons_succ, i64_w, i32_w]
         rfl
        refine pure_ (i := 23) (N := some 36) (v := undef) (a' := ?_) (bL 28 16777215) rfl rfl (any_of HT_.out (by kernel_rfl)) (fun _ _ _ h => h) (Or.inr ⟨by rfl, rfl⟩) ?_ ?_
        rotate_left
        ·simp only [Act.put, List.setIfInBounds_toArray, List.set_cons_zero, List.set_cons_succ, i64_w, i32_w]
         rfl
        refine pure_ (i := 24) (N := some 37) (v := undef) (a' := ?_) (bL 28 33554431) rfl rfl (any_of HT_.out (by kernel_rfl)) (fun _ _ _ h => h) (Or.inr ⟨by rfl, rfl⟩) ?_ ?_
        rotate_left
        ·simp only [Act.put, List.setIfInBounds_toArray, List.set_cons_zero, List.set_cons_succ, i64_w, i32_w]
         rfl
        refine pure_ (i := 25) (N := some 38) (v := undef) (a' := ?_) (bL 28 67108863) rfl rfl (any_of HT_.out (by kernel_rfl)) (fun _ _ _ h => h) (Or.inr ⟨by rfl, rfl⟩) ?_ ?_
        rotate_left
        ·simp only [Act.put, List.setIfInBounds_toArray, List.set_cons_zero, List.set_cons_succ, i64_w, i32_w]
         rfl
        refine pure_ (i := 26) (N := some 39) (v := undef) (a' := ?_) (bL 28 134217727) rfl rfl (any_of HT_.out (by kernel_rfl)) (fun _ _ _ h => h) (Or.inr ⟨by rfl, rfl⟩) ?_ ?_
        rotate_left
        ·simp only [Act.put, List.setIfInBounds_toArray, List.set_cons_zero, List.set_cons_succ, i64_w, i32_w]
         rfl
        refine pure_ (i := 27) (N := some 40) (v := ?_) (a' := ?_) (bL 28 268435455) rfl rfl (any_of HT_.out (by kernel_rfl)) (fun _ _ _ h => h) (Or.inl ⟨by rfl, ?_⟩) ?_ ?_
        rotate_left
        ·intro w'
         go_simp
         with_reducible rfl
        rotate_left
        ·simp only [Act.put, List.setIfInBounds_toArray, List.set_cons_zero, List.set_cons_succ, i64_w, i32_w]
         rfl
        refine done_ (done_of HT_.out (by kernel_rfl)) ?_
        go_wp2
        go_ret
        exact ⟨by first | rfl | (simp [*] <;> rfl), by repeat (first | exact Drawn0.refl _ | exact ⟨_, rfl⟩ | apply Drawn0.step)⟩
  case false =>
    go_enter Try.func41, Try.ntmps41
    go_wp2
    go_loopg [9] 3 (fun kq v9 w' => ∃ x9 : Int, v9 = .int .i64 x9 ∧ Aside0 ((kq : Int) + x9 = 3 ∧ (x9 = 0 ∨ x9 = 1)) ∧ Aside0 (Drawn0 w w'))
    case atStart => exact ⟨0, (by first | rfl | (simp; done) | (simp [*]; done)), ⟨by omega, by omega⟩, ⟨by repeat (first | exact Drawn0.refl _ | apply Drawn0.step)⟩⟩
    case round =>
      obtain ⟨x9, rfl, HX9, HD⟩ := hrel
      cases gk with
      | zero => exact absurd HX9.out (by omega)
      | succ k1 =>
        by_cases hi : x9 = 1
        · subst hi
          go_wp2
          go_ret
          exact ⟨by first | rfl | (simp [*] <;> rfl), by obtain ⟨nd, rfl⟩ := HD.out; repeat (first | exact Drawn0.refl _ | exact ⟨nd, rfl⟩ | apply Drawn0.step)⟩
        obtain rfl : x9 = 0 := by have := HX9.out; omega
        obtain ⟨nd, hnd⟩ := HD.out
        subst hnd
        clear HD
        have hx1w : (w.drewN nd).cell? ad1 = some (.int .i64 (-1)) := by have h_ := hx1; rw [show (0 : Int).toNat = 0 from rfl, Addr.add_zero'] at h_; exact h_
        go_upto_region 4 with fail
        have hcn : (w.drewN nd).cell? ⟨gx, 1, none⟩ = some (.slice (some an) nl.length cn) := hcx_1
        have hxm : (w.drewN nd).cell? (an.add m0.toNat) = some (.bool false) := hxn
        have HBW : Aside0 ((w.drewN nd).heap[gx]? = some (.cells #[.slice A0 n0 c0, .slice (some an) nl.length cn, vf, vl, vw] 77 (0, 0))) := ⟨HX.out⟩
        refine start_ (n := 28) (S := fun w' => w'.cell? ⟨gx, 1, none⟩ = some (.slice (some an) nl.length cn) ∧ w'.cell? (an.add m0.toNat) = some (.bool false)) (ds := []) (bL 28 0) (by kernel_rfl) rfl (by kernel_rfl) ⟨hcn, hxm⟩ (fun hHeld => ?_)
        refine with_tabW impl_mayEnd.tab4 impl_mayEnd.bits4 (fun HT_ HW_ => ?_)
        refine pure_ (i := 0) (N := some 13) (v := ?_) (a' := ?_) (bL 28 1) rfl rfl (any_of HT_.out (by kernel_rfl)) (fun _ _ _ h => h) (Or.inl ⟨by rfl, ?_⟩) ?_ ?_
        rotate_left
        ·intro w'
         go_simp
         with_reducible rfl
        rotate_left
        ·simp only [Act.put, List.setIfInBounds_toArray, List.set_cons_zero, List.set_cons_succ, i64_w, i32_w]
         rfl
        refine pure_ (i := 1) (N := some 14) (v := ?_) (a' := ?_) (bL 28 3) rfl rfl (any_of HT_.out (by kernel_rfl)) (fun _ _ _ h => h) (Or.inl ⟨by rfl, ?_⟩) ?_ ?_
        rotate_left
        ·intro w'
         go_simp
         with_reducible rfl
        rotate_left
        ·simp only [Act.put, List.setIfInBounds_toArray, List.set_cons_zero, List.set_cons_succ, i64_w, i32_w]
         rfl
        refine pure_ (i := 2) (N := some 15) (v := ?_) (a' := ?_) (bL 28 7) rfl rfl (any_of HT_.out (by kernel_rfl)) (fun _ _ _ h => h) (Or.inl ⟨by rfl, ?_⟩) ?_ ?_
        rotate_left
        ·intro w'
         go_simp
         with_reducible rfl
        rotate_left
        ·simp only [Act.put, List.setIfInBounds_toArray, List.set_cons_zero, List.set_cons_succ, i64_w, i32_w]
         rfl
        refine pure_ (i := 3) (N := some 16) (v := ?_) (a' := ?_) (bL 28 15) rfl rfl (any_of HT_.out (by kernel_rfl)) (fun _ _ _ h => h) (Or.inl ⟨by rfl, ?_⟩) ?_ ?_
        rotate_left
        ·intro w'
         go_simp
         with_reducible rfl
        rotate_left
        ·simp only [Act.put, List.setIfInBounds_toArray, List.set_cons_zero, List.set_cons_succ, i64_w, i32_w]
         rfl
        refine pure_ (i := 4) (N := some 17) (v := ?_) (a' := ?_) (bL 28 31) rfl rfl (any_of HT_.out (by kernel_rfl)) (fun _ _ _ h => h) (Or.inl ⟨by rfl, ?_⟩) ?_ ?_
        rotate_left
        ·intro w'
         go_simp
         with_reducible rfl
        rotate_left
        ·simp only [Act.put, List.setIfInBounds_toArray, List.set_cons_zero, List.set_cons_succ, i64_w, i32_w]
         rfl
        refine pure_ (i := 5) (N := some 18) (v := ?_) (a' := ?_) (bL 28 63) rfl rfl (any_of HT_.out (by kernel_rfl)) (fun _ _ _ h => h) (Or.inl ⟨by rfl, ?_⟩) ?_ ?_
        rotate_left
        ·intro w'
         go_simp
         with_reducible rfl
        rotate_left
        ·simp only [Act.put, List.setIfInBounds_toArray, List.set_cons_zero, List.set_cons_succ, i64_w, i32_w]
         rfl
        refine take_ (i := 6) (N := some 19) (v := ?_) (a' := ?_) (bL 28 127) rfl rfl (take_ofW HT_.out HW_.out (by kernel_rfl)) (fun _ _ _ h => h) (Or.inl ⟨by rfl, ?_⟩) hHeld ?_ ?_
        rotate_left
        ·rintro w' ⟨s0, s1⟩
         go_simp
         with_reducible rfl
        rotate_left
        ·simp only [Act.put, List.setIfInBounds_toArray, List.set_cons_zero, List.set_cons_succ, i64_w, i32_w]
         rfl
        refine pure_ (i := 7) (N := some 20) (v := ?_) (a' := ?_) (bL 28 255) rfl rfl (any_of HT_.out (by kernel_rfl)) (fun _ _ _ h => h) (Or.inl ⟨by rfl, ?_⟩) ?_ ?_
        rotate_left
        ·intro w'
         go_simp
         with_reducible rfl
        rotate_left
        ·simp only [Act.put, List.setIfInBounds_toArray, List.set_cons_zero, List.set_cons_succ, i64_w, i32_w]
         rfl
        refine one_ (i := 8) (N := some 21) (bL 28 511) rfl rfl (one_of HT_.out (by kernel_rfl)) (by decide) (fun K hK => ?_)
        refine goes_ (f := 69) Try.func69 (by kernel_rfl) rfl #[.pointer (some ⟨gx, 0, none⟩)] (by rfl) rfl rfl (by (try simp only [List.map_toArray, List.map_cons, List.map_nil]); first | done | rfl | (simp only [List.length_drop, List.length_take]; rfl)) ?_
        (with_reducible refine (impl_whole.calls gx A0 n0 c0 (.slice (some an) nl.length cn) vf vl vw _ ?sx0 HP.out HM.out).mono ?_)
        case sx0 => exact HX.out
        rintro e w5 ⟨rfl, ⟨nd2, rfl⟩⟩
        refine ⟨_, rfl, ?_⟩
        rw [← HM0.out]
        refine hK.out _ _ hHeld (fun hHeld2 => ?_)
        clear hK K hHeld
        have hHeld := hHeld2
        clear hHeld2
        refine norm_ (a' := ?_) ?_ ?_
        rotate_left
        ·show Act.put _ (some 21) _ = _
         simp only [Act.put, List.setIfInBounds_toArray, List.set_cons_zero, List.set_cons_succ, i64_w, i32_w]
         rfl
        refine pure_ (i := 9) (N := some 22) (v := ?_) (a' := ?_) (bL 28 1023) rfl rfl (any_of HT_.out (by kernel_rfl)) (fun _ _ _ h => h) (Or.inl ⟨by rfl, ?_⟩) ?_ ?_
        rotate_left
        ·intro w'
         go_simp
         with_reducible rfl
        rotate_left
        ·simp only [Act.put, List.setIfInBounds_toArray, List.set_cons_zero, List.set_cons_succ, i64_w, i32_w]
         rfl
        refine take_ (i := 10) (N := some 23) (v := ?_) (a' := ?_) (bL 28 2047) rfl rfl (take_ofW HT_.out HW_.out (by kernel_rfl)) (fun _ _ _ h => h) (Or.inl ⟨by rfl, ?_⟩) hHeld ?_ ?_
        rotate_left
        ·rintro w' ⟨s0, s1⟩
         go_simp
         with_reducible rfl
        rotate_left
        ·simp only [Act.put, List.setIfInBounds_toArray, List.set_cons_zero, List.set_cons_succ, i64_w, i32_w]
         rfl
        refine pure_ (i := 11) (N := some 24) (v := ?_) (a' := ?_) (bL 28 4095) rfl rfl (any_of HT_.out (by kernel_rfl)) (fun _ _ _ h => h) (Or.inl ⟨by rfl, ?_⟩) ?_ ?_
        rotate_left
        ·intro w'
         go_simp
         with_reducible rfl
        rotate_left
        ·simp only [Act.put, List.setIfInBounds_toArray, List.set_cons_zero, List.set_cons_succ, i64_w, i32_w]
         rfl
        refine pure_ (i := 12) (N := some 25) (v := ?_) (a' := ?_) (bL 28 8191) rfl rfl (any_of HT_.out (by kernel_rfl)) (fun _ _ _ h => h) (Or.inl ⟨by rfl, ?_⟩) ?_ ?_
        rotate_left
        ·intro w'
         go_simp
         with_reducible rfl
        rotate_left
        ·simp only [Act.put, List.setIfInBounds_toArray, List.set_cons_zero, List.set_cons_succ, i64_w, i32_w]
         rfl
        refine pure_ (i := 13) (N := some 26) (v := ?_) (a' := ?_) (bL 28 16383) rfl rfl (any_of HT_.out (by kernel_rfl)) (fun _ _ _ h => h) (Or.inl ⟨by rfl, ?_⟩) ?_ ?_
        rotate_left
        ·intro w'
         go_simp
         with_reducible rfl
        rotate_left
        ·simp only [Act.put, List.setIfInBounds_toArray, List.set_cons_zero, List.set_cons_succ, i64_w, i32_w]
         rfl
        refine pure_ (i := 14) (N := some 27) (v := ?_) (a' := ?_) (bL 28 32767) rfl rfl (any_of HT_.out (by kernel_rfl)) (fun _ _ _ h => h) (Or.inl ⟨by rfl, ?_⟩) ?_ ?_
        rotate_left
        ·intro w'
         go_simp
         with_reducible rfl
        rotate_left
        ·simp only [Act.put, List.setIfInBounds_toArray, List.set_cons_zero, List.set_cons_succ, i64_w, i32_w]
         rfl
        refine pure_ (i := 15) (N := some 28) (v := ?_) (a' := ?_) (bL 28 65535) rfl rfl (any_of HT_.out (by kernel_rfl)) (fun _ _ _ h => h) (Or.inl ⟨by rfl, ?_⟩) ?_ ?_
        rotate_left
        ·intro w'
         go_simp
         with_reducible rfl
        rotate_left
        ·simp only [Act.put, List.setIfInBounds_toArray, List.set_cons_zero, List.set_cons_succ, i64_w, i32_w]
         rfl
        refine pure_ (i := 16) (N := some 29) (v := undef) (a' := ?_) (bL 28 131071) rfl rfl (any_of HT_.out (by kernel_rfl)) (fun _ _ _ h => h) (Or.inr ⟨by rfl, rfl⟩) ?_ ?_
        rotate_left
        ·simp only [Act.put, List.setIfInBounds_toArray, List.set_cons_zero, List.set_cons_succ, i64_w, i32_w]
         rfl
        refine pure_ (i := 17) (N := some 30) (v := undef) (a' := ?_) (bL 28 262143) rfl rfl (any_of HT_.out (by kernel_rfl)) (fun _ _ _ h => h) (Or.inr ⟨by rfl, rfl⟩) ?_ ?_
        rotate_left
        ·simp only [Act.put, List.setIfInBounds_toArray, List.set_cons_zero, List.set_cons_succ, i64_w, i32_w]
         rfl
        refine pure_ (i := 18) (N := some 31) (v := undef) (a' := ?_) (bL 28 524287) rfl rfl (any_of HT_.out (by kernel_rfl)) (fun _ _ _ h => h) (Or.inr ⟨by rfl, rfl⟩) ?_ ?_
        rotate_left
        ·simp only [Act.put, List.setIfInBounds_toArray, List.set_cons_zero, List.set_cons_succ, i64_w, i32_w]
         rfl
        refine pure_ (i := 19) (N := some 32) (v := undef) (a' := ?_) (bL 28 1048575) rfl rfl (any_of HT_.out (by kernel_rfl)) (fun _ _ _ h => h) (Or.inr ⟨by rfl, rfl⟩) ?_ ?_
        rotate_left
        ·simp only [Act.put, List.setIfInBounds_toArray, List.set_cons_zero, List.set_cons_succ, i64_w, i32_w]
         rfl
        refine pure_ (i := 20) (N := some 33) (v := undef) (a' := ?_) (bL 28 2097151) rfl rfl (any_of HT_.out (by kernel_rfl)) (fun _ _ _ h => h) (Or.inr ⟨by rfl, rfl⟩) ?_ ?_
        rotate_left
        ·simp only [Act.put, List.setIfInBounds_toArray, List.set_cons_zero, List.set_cons_succ, i64_w, i32_w]
         rfl
        refine pure_ (i := 21) (N := some 34) (v := undef) (a' := ?_) (bL 28 4194303) rfl rfl (any_of HT_.out (by kernel_rfl)) (fun _ _ _ h => h) (Or.inr ⟨by rfl, rfl⟩) ?_ ?_
        rotate_left
        ·simp only [Act.put, List.setIfInBounds_toArray, List.set_cons_zero, List.set_cons_succ, i64_w, i32_w]
         rfl
        refine pure_ (i := 22) (N := some 35) (v := undef) (a' := ?_) (bL 28 8388607) rfl rfl (any_of HT_.out (by kernel_rfl)) (fun _ _ _ h => h) (Or.inr ⟨by rfl, rfl⟩) ?_ ?_
        rotate_left
        ·simp only [Act.put, List.setIfInBounds_toArray, List.set_cons_zero, List.set_cons_succ, i64_w, i32_w]
         rfl
        refine pure_ (i := 23) (N := some 36) (v := undef) (a' := ?_) (bL 28 16777215) rfl rfl (any_of HT_.out (by kernel_rfl)) (fun _ _ _ h => h) (Or.inr ⟨by rfl, rfl⟩) ?_ ?_
        rotate_left
        ·simp only [Act.put, List.setIfInBounds_toArray, List.set_cons_zero, List.set_cons_succ, i64_w, i32_w]
         rfl
        refine pure_ (i := 24) (N := some 37) (v := undef) (a' := ?_) (bL 28 33554431) rfl rfl (any_of HT_.out (by kernel_rfl)) (fun _ _ _ h => h) (Or.inr ⟨by rfl, rfl⟩) ?_ ?_
        rotate_left
        ·simp only [Act.put, List.setIfInBounds_toArray, List.set_cons_zero, List.set_cons_succ, i64_w, i32_w]
         rfl
        refine pure_ (i := 25) (N := some 38) (v := undef) (a' := ?_) (bL 28 67108863) rfl rfl (any_of HT_.out (by kernel_rfl)) (fun _ _ _ h => h) (Or.inr ⟨by rfl, rfl⟩) ?_ ?_
        rotate_left
        ·simp only [Act.put, List.setIfInBounds_toArray, List.set_cons_zero, List.set_cons_succ, i64_w, i32_w]
         rfl
        refine pure_ (i := 26) (N := some 39) (v := ?_) (a' := ?_) (bL 28 134217727) rfl rfl (any_of HT_.out (by kernel_rfl)) (fun _ _ _ h => h) (Or.inl ⟨by rfl, ?_⟩) ?_ ?_
        rotate_left
        ·intro w'
         go_simp
         with_reducible rfl
        rotate_left
        ·simp only [Act.put, List.setIfInBounds_toArray, List.set_cons_zero, List.set_cons_succ, i64_w, i32_w]
         rfl
        refine pure_ (i := 27) (N := some 40) (v := ?_) (a' := ?_) (bL 28 268435455) rfl rfl (any_of HT_.out (by kernel_rfl)) (fun _ _ _ h => h) (Or.inl ⟨by rfl, ?_⟩) ?_ ?_
        rotate_left
        ·intro w'
         go_simp
         with_reducible rfl
        rotate_left
        ·simp only [Act.put, List.setIfInBounds_toArray, List.set_cons_zero, List.set_cons_succ, i64_w, i32_w]
         rfl
        refine done_ (done_of HT_.out (by kernel_rfl)) ?_
        go_wp2
        go_roundg k1
        case measure => omega
        case rel => exact ⟨1, (by first | rfl | (simp; done) | (simp [*]; done)), ⟨by have := HX9.out; omega, .inr rfl⟩, ⟨by repeat (first | exact Drawn0.refl _ | exact ⟨_, rfl⟩ | apply Drawn0.step)⟩⟩
open Go.Proofs.YtaliphegdclkfaaW.IntMaps
/-- Whether a node may be left out, by its kids' answers. -/
def nvk (kind : Int) (nl : List Bool) : List Int → Bool → Bool
  | [], b => b
  | k :: ks, b => nvk kind nl ks (if kind = 3 then b || rdOf false nl k else b && rdOf false nl k)
def nv (nl : List Bool) (x : S44) : Bool := nvk x.f0 nl x.f2 (x.f0 == 2) || (x.f3 == 1 || x.f3 == 2)
def NL (l0 : List S44) : Nat → List Bool
  | 0 => []
  | i + 1 => NL l0 i ++ [nv (NL l0 i) (rd_T44 l0 (i : Int))]
theorem NL_length (l0 : List S44) : ∀ i, (NL l0 i).length = i
  | 0 => rfl
  | i + 1 => by rw [NL, List.length_append, NL_length l0 i]; rfl
/-- Rows of positions: each one's length is held by its node's weight, each position is one of the first i. -/
def Good (c : Nat → Nat) (i : Nat) (fs : List (List Int)) : Prop := fs.length = i ∧ ∀ j, j < i → (rdOf [] fs (j : Int)).length ≤ c j ∧ ∀ z ∈ rdOf [] fs (j : Int), 0 ≤ z ∧ z < (i : Int)
/-- What is asked of the list of nodes. -/
structure NetOk (l0 : List S44) (c : Nat → Nat) : Prop where
  len : l0.length ≤ 40
  kids : ∀ i, i < l0.length → ∀ x ∈ (rd_T44 l0 (i : Int)).f2, 0 ≤ x ∧ x < (i : Int)
  sum : ∀ i, i < l0.length → ((rd_T44 l0 (i : Int)).f2.map (fun x => c x.toNat)).sum + 1 ≤ c i
  le : ∀ i, i < l0.length → c i ≤ 40
/-- The weights of the first m kids. -/
def Sm (c : Nat → Nat) (ks : List Int) (m : Int) : Nat := ((ks.take m.toNat).map (fun x => c x.toNat)).sum
/-- The rows that are being gathered, when m kids are done. -/
structure Loc (c : Nat → Nat) (ks : List Int) (m i : Int) (l7 l8 : List Int) : Prop where
  len7 : l7.length ≤ 1 + Sm c ks m
  len8 : l8.length ≤ 1 + Sm c ks m
  in7 : ∀ z ∈ l7, 0 ≤ z ∧ z < i + 1
  in8 : ∀ z ∈ l8, 0 ≤ z ∧ z < i + 1
theorem Loc.start {c : Nat → Nat} {ks : List Int} {i : Int} {l7 l8 : List Int} (h : (l7 = [] ∨ l7 = [i]) ∧ (l8 = [] ∨ l8 = [i])) (h0 : 0 ≤ i) : Loc c ks 0 i l7 l8 := by
  obtain ⟨h7, h8⟩ := h
  refine ⟨?_, ?_, ?_, ?_⟩
  · rcases h7 with rfl | rfl <;> simp
  · rcases h8 with rfl | rfl <;> simp
  · rcases h7 with rfl | rfl <;> intro z hz <;> simp at hz <;> omega
  · rcases h8 with rfl | rfl <;> intro z hz <;> simp at hz <;> omega
theorem kid_range {l0 : List S44} {c : Nat → Nat} (h : NetOk l0 c) {i m kd : Int} (h0 : 0 ≤ i) (hi : i < (l0.length : Int)) (m0 : 0 ≤ m) (hm : m < ((rd_T44 l0 i).f2.length : Int)) (hk : kd = rd (rd_T44 l0 i).f2 m) : 0 ≤ kd ∧ kd < i := by
  have hlt : m.toNat < (rd_T44 l0 i).f2.length := by omega
  have hmem : kd ∈ (rd_T44 l0 i).f2 := by
    rw [hk]
    unfold rd
    rw [List.getD_eq_getElem?_getD, List.getElem?_eq_getElem hlt]
    exact List.getElem_mem hlt
  have e : ((i.toNat : Nat) : Int) = i := by omega
  have := h.kids i.toNat (by omega)
  rw [e] at this
  exact this kd hmem
theorem drop_at (ks : List Int) (m : Int) (h0 : 0 ≤ m) (hm : m < (ks.length : Int)) : ks.drop m.toNat = rd ks m :: ks.drop (m + 1).toNat := by
  have hlt : m.toNat < ks.length := by omega
  rw [List.drop_eq_getElem_cons hlt, show (m + 1).toNat = m.toNat + 1 by omega]
  congr 1
  unfold rd
  rw [List.getD_eq_getElem?_getD, List.getElem?_eq_getElem hlt]
  rfl
theorem nvk_step {kind : Int} {nl : List Bool} {ks : List Int} {m : Int} {b r : Bool} (h : nvk kind nl (ks.drop m.toNat) b = r) (h0 : 0 ≤ m) (hm : m < (ks.length : Int)) : nvk kind nl (ks.drop (m + 1).toNat) (if kind = 3 then b || rdOf false nl (rd ks m) else b && rdOf false nl (rd ks m)) = r := by
  rw [drop_at ks m h0 hm] at h
  exact h
theorem Sm_step (c : Nat → Nat) (ks : List Int) (m : Int) (h0 : 0 ≤ m) (hm : m < (ks.length : Int)) : Sm c ks (m + 1) = Sm c ks m + c (rd ks m).toNat := by
  have hlt : m.toNat < ks.length := by omega
  unfold Sm
  rw [show (m + 1).toNat = m.toNat + 1 by omega, List.take_succ_eq_append_getElem hlt, List.map_append, List.sum_append]
  congr 1
  unfold rd
  rw [List.getD_eq_getElem?_getD, List.getElem?_eq_getElem hlt]
  simp
theorem Sm_le (c : Nat → Nat) (ks : List Int) (m : Int) : Sm c ks m ≤ (ks.map (fun x => c x.toNat)).sum := by
  unfold Sm
  have h := List.take_append_drop m.toNat ks
  have h2 : (ks.map (fun x => c x.toNat)).sum = ((ks.take m.toNat).map (fun x => c x.toNat)).sum + ((ks.drop m.toNat).map (fun x => c x.toNat)).sum := by
    rw [← List.sum_append, ← List.map_append, h]
  omega
theorem Loc.step {c : Nat → Nat} {ks : List Int} {m i : Int} {l7 l8 lf ll : List Int} (h : Loc c ks m i l7 l8) (h0 : 0 ≤ m) (hm : m < (ks.length : Int)) (hf : lf.length ≤ c (rd ks m).toNat ∧ ∀ z ∈ lf, 0 ≤ z ∧ z < i) (hl : ll.length ≤ c (rd ks m).toNat ∧ ∀ z ∈ ll, 0 ≤ z ∧ z < i) : Loc c ks (m + 1) i (l7 ++ lf) (l8 ++ ll) := by
  have hs := Sm_step c ks m h0 hm
  refine ⟨?_, ?_, ?_, ?_⟩
  · rw [List.length_append, hs]; have := h.len7; omega
  · rw [List.length_append, hs]; have := h.len8; omega
  · intro z hz
    rcases List.mem_append.1 hz with hz | hz
    · exact h.in7 z hz
    · have := hf.2 z hz; omega
  · intro z hz
    rcases List.mem_append.1 hz with hz | hz
    · exact h.in8 z hz
    · have := hl.2 z hz; omega
theorem Loc.step2 {c : Nat → Nat} {ks : List Int} {m i : Int} {l7 l8 lf ll l7' l8' : List Int} (h : Loc c ks m i l7 l8) (h0 : 0 ≤ m) (hm : m < (ks.length : Int)) (hf : lf.length ≤ c (rd ks m).toNat ∧ ∀ z ∈ lf, 0 ≤ z ∧ z < i) (hl : ll.length ≤ c (rd ks m).toNat ∧ ∀ z ∈ ll, 0 ≤ z ∧ z < i) (h7 : l7' = l7 ∨ l7' = l7 ++ lf) (h8 : l8' = l8 ∨ l8' = []) : Loc c ks (m + 1) i l7' (l8' ++ ll) := by
  have hs := Loc.step h h0 hm hf hl
  refine ⟨?_, ?_, ?_, ?_⟩
  · have := hs.len7; rw [List.length_append] at this; rcases h7 with rfl | rfl <;> (try rw [List.length_append]) <;> omega
  · have := hs.len8; rw [List.length_append] at this ⊢; rcases h8 with rfl | rfl <;> (try rw [List.length_nil]) <;> omega
  · intro z hz; rcases h7 with rfl | rfl
    · exact hs.in7 z (List.mem_append.2 (.inl hz))
    · exact hs.in7 z hz
  · intro z hz; rcases h8 with rfl | rfl
    · exact hs.in8 z hz
    · exact hs.in8 z (List.mem_append.2 (.inr (by simpa using hz)))
theorem Loc.small {l0 : List S44} {c : Nat → Nat} (h : NetOk l0 c) {i m : Int} (h0 : 0 ≤ i) (hi : i < (l0.length : Int)) {l7 l8 : List Int} (hL : Loc c (rd_T44 l0 i).f2 m i l7 l8) : l7.length ≤ 40 ∧ l8.length ≤ 40 := by
  have e : ((i.toNat : Nat) : Int) = i := by omega
  have h1 := h.sum i.toNat (by omega)
  have h2 := h.le i.toNat (by omega)
  rw [e] at h1
  have h3 := Sm_le c (rd_T44 l0 i).f2 m
  have h4 := hL.len7
  have h5 := hL.len8
  omega
theorem Good.at {c : Nat → Nat} {i : Int} {fs : List (List Int)} (h : Good c i.toNat fs) {k : Int} (h0 : 0 ≤ k) (hk : k < i) : (rdOf [] fs k).length ≤ c k.toNat ∧ ∀ z ∈ rdOf [] fs k, 0 ≤ z ∧ z < i := by
  have h1 := h.2 k.toNat (by omega)
  have e : ((k.toNat : Nat) : Int) = k := by omega
  have e2 : ((i.toNat : Nat) : Int) = i := by omega
  rw [e, e2] at h1
  exact h1
theorem rdOf_app_lt {α : Type} (d : α) (l r : List α) (j : Nat) (h : j < l.length) : rdOf d (l ++ r) (j : Int) = rdOf d l (j : Int) := by
  unfold rdOf
  rw [Int.toNat_natCast, List.getD_eq_getElem?_getD, List.getD_eq_getElem?_getD, List.getElem?_append_left h]
theorem rdOf_app_eq {α : Type} (d : α) (l : List α) (x : α) (j : Nat) (h : j = l.length) : rdOf d (l ++ [x]) (j : Int) = x := by
  subst h
  unfold rdOf
  rw [Int.toNat_natCast, List.getD_eq_getElem?_getD, List.getElem?_append_right (Nat.le_refl _), Nat.sub_self]
  rfl
theorem Good.step {c : Nat → Nat} {i : Int} {fs : List (List Int)} {l : List Int} (h : Good c i.toNat fs) (h0 : 0 ≤ i) (hl : l.length ≤ c i.toNat) (hz : ∀ z ∈ l, 0 ≤ z ∧ z < i + 1) : Good c (i + 1).toNat (fs ++ [l]) := by
  rw [show (i + 1).toNat = i.toNat + 1 by omega]
  refine ⟨by rw [List.length_append, h.1]; rfl, fun j hj => ?_⟩
  by_cases e : j < i.toNat
  · rw [rdOf_app_lt _ _ _ _ (by rw [h.1]; exact e)]
    have h2 := h.2 j e
    exact ⟨h2.1, fun z hz => by have := h2.2 z hz; omega⟩
  · obtain rfl : j = i.toNat := by omega
    rw [rdOf_app_eq _ _ _ _ h.1.symm]
    exact ⟨hl, fun z h_ => by have := hz z h_; omega⟩
theorem NL_step (l0 : List S44) (i : Int) (h0 : 0 ≤ i) : NL l0 (i + 1).toNat = NL l0 i.toNat ++ [nv (NL l0 i.toNat) (rd_T44 l0 i)] := by
  rw [show (i + 1).toNat = i.toNat + 1 by omega, NL, show ((i.toNat : Nat) : Int) = i by omega]
theorem Loc.fin {l0 : List S44} {c : Nat → Nat} (h : NetOk l0 c) {i m : Int} (h0 : 0 ≤ i) (hi : i < (l0.length : Int)) {l7 l8 : List Int} (hL : Loc c (rd_T44 l0 i).f2 m i l7 l8) : l7.length ≤ c i.toNat ∧ l8.length ≤ c i.toNat := by
  have e : ((i.toNat : Nat) : Int) = i := by omega
  have h1 := h.sum i.toNat (by omega)
  rw [e] at h1
  have h3 := Sm_le c (rd_T44 l0 i).f2 m
  have h4 := hL.len7
  have h5 := hL.len8
  omega
theorem isOptional_val (x0 : Int) (x1 : ByteArray) (x2 : List Int) (x3 : Int) : impl_PNode_isOptional.f x0 x1 x2 x3 = some (x3 == 1 || x3 == 2) := by
  unfold impl_PNode_isOptional.f
  split
  · rename_i h; rw [h]; rfl
  · rename_i h; rw [beq_eq_false_iff_ne.mpr h, Bool.false_or]
theorem info4x : (Try.prog.info? 4).map (fun i => (i.zero, i.size, i.bytes)) = some (some (.bool false), 1, 1) := by kernel_rfl
theorem info41x : (Try.prog.info? 41).map (fun i => (i.zero, i.size, i.bytes)) = some (some (.slice none 0 0), 1, 24) := by kernel_rfl
theorem info78 : (Try.prog.info? 78).map (fun i => (i.zero, i.size, i.bytes)) = some (some (.map none), 1, 8) := by kernel_rfl
def impl_netOf.T13 : Bool × List (List Nat × List Nat) := (true, [([], []), ([0], [0]), ([1], [1]), ([2, 1], [1, 2]), ([3, 1], [1, 3]), ([4, 1], [1, 4]), ([1], [1]), ([5, 6, 1], [1, 5, 6]), ([7, 1], [1, 7]), ([1, 8], [1, 8]), ([], []), ([], []), ([11], [11]), ([12], [12]), ([13], [13]), ([], []), ([14, 15], [14, 15]), ([16], [16]), ([10, 17, 1], [10, 17]), ([], []), ([], []), ([20], [20]), ([21], [21]), ([22], [22]), ([], []), ([23, 24], [23, 24]), ([25], [25]), ([19, 26, 18], [19, 26]), ([9, 27, 0, 1, 2, 3, 4, 5, 6, 7, 8, 9], [0, 9]), ([18, 28, 0, 1, 2, 3, 4, 5, 6, 7, 8, 9, 10, 11, 12, 13, 14, 15, 16, 17, 18, 28], [10, 18]), ([27, 29, 0, 1, 2, 3, 4, 5, 6, 7, 8, 9, 10, 11, 12, 13, 14, 15, 16, 17, 18, 19, 20, 21, 22, 23, 24, 25, 26, 27, 28, 29], [19, 27])])
def impl_netOf.B13 : List Nat := [0, 1, 3, 7, 15, 31, 3, 127, 255, 511, 0, 0, 2048, 6144, 14336, 0, 63488, 129024, 261123, 0, 0, 1048576, 3145728, 7340032, 0, 32505856, 66060288, 134216707, 268435455, 536870911, 1073741823]
theorem impl_netOf.tab13 : rtab .any (opsOf Try.f40 13) = impl_netOf.T13 := by kernel_rfl
theorem impl_netOf.bits13 : waitsOk impl_netOf.T13.2 impl_netOf.B13 = true := by kernel_rfl
def impl_netOf.T19 : Bool × List (List Nat × List Nat) := (true, [([], []), ([0], [0]), ([1], [1]), ([2, 1], [1, 2]), ([3, 1], [1, 3]), ([4, 1], [1, 4]), ([1], [1]), ([5, 6, 1], [1, 5, 6]), ([7, 1], [1, 7]), ([1, 8], [1, 8]), ([], []), ([10, 1], [10]), ([], []), ([12], [12]), ([13], [13]), ([14], [14]), ([], []), ([15, 16], [15, 16]), ([17], [17]), ([11, 18, 11], [11, 18]), ([9, 19, 0, 1, 2, 3, 4, 5, 6, 7, 8, 9], [0, 9]), ([19, 20, 0, 1, 2, 3, 4, 5, 6, 7, 8, 9, 10, 11, 12, 13, 14, 15, 16, 17, 18, 19, 20], [10, 19])])
def impl_netOf.B19 : List Nat := [0, 1, 3, 7, 15, 31, 3, 127, 255, 511, 0, 1027, 0, 4096, 12288, 28672, 0, 126976, 258048, 523267, 1048575, 2097151]
theorem impl_netOf.tab19 : rtab .any (opsOf Try.f40 19) = impl_netOf.T19 := by kernel_rfl
theorem impl_netOf.bits19 : waitsOk impl_netOf.T19.2 impl_netOf.B19 = true := by kernel_rfl
def impl_netOf.T23 : Bool × List (List Nat × List Nat) := (true, [([], []), ([], []), ([], []), ([], []), ([3], [3]), ([4], [4]), ([5], [5]), ([], []), ([7], [7]), ([8], [8]), ([9, 8, 8], [8, 9]), ([8, 10], [8, 10]), ([11], [11]), ([6, 12, 10], [6, 12]), ([], []), ([14], [14]), ([15], [15]), ([16], [16]), ([], []), ([18], [18]), ([17, 19, 13], [17, 19]), ([], []), ([21], [21]), ([22], [22]), ([23], [23]), ([], []), ([25], [25]), ([24, 26, 20], [24, 26]), ([0, 0, 3, 4, 5, 6, 7, 8, 9, 10, 11, 12, 13, 17, 20, 24, 27], [0]), ([28, 0, 3, 4, 5, 6, 7, 8, 9, 10, 11, 12, 13, 17, 20, 24, 27], [28]), ([29, 13, 27, 0, 3, 4, 5, 6, 7, 8, 9, 10, 11, 12, 13, 17, 20, 24, 27], [13, 29]), ([1, 0, 1, 3, 4, 5, 6, 7, 8, 9, 10, 11, 12, 13, 14, 15, 16, 17, 18, 19, 20, 24, 27, 28, 29, 30], [1]), ([31, 0, 1, 3, 4, 5, 6, 7, 8, 9, 10, 11, 12, 13, 14, 15, 16, 17, 18, 19, 20, 24, 27, 28, 29, 30], [31]), ([32, 20, 30, 0, 1, 3, 4, 5, 6, 7, 8, 9, 10, 11, 12, 13, 14, 15, 16, 17, 18, 19, 20, 24, 27, 28, 29, 30], [20, 32]), ([2, 0, 1, 2, 3, 4, 5, 6, 7, 8, 9, 10, 11, 12, 13, 14, 15, 16, 17, 18, 19, 20, 21, 22, 23, 24, 25, 26, 27, 28, 29, 30, 31, 32, 33], [2]), ([34, 0, 1, 2, 3, 4, 5, 6, 7, 8, 9, 10, 11, 12, 13, 14, 15, 16, 17, 18, 19, 20, 21, 22, 23, 24, 25, 26, 27, 28, 29, 30, 31, 32, 33], [34]), ([35, 27, 33, 0, 1, 2, 3, 4, 5, 6, 7, 8, 9, 10, 11, 12, 13, 14, 15, 16, 17, 18, 19, 20, 21, 22, 23, 24, 25, 26, 27, 28, 29, 30, 31, 32, 33], [27, 35])])
def impl_netOf.B23 : List Nat := [0, 0, 0, 0, 8, 24, 56, 0, 128, 384, 896, 1920, 3968, 8184, 0, 16384, 49152, 114688, 0, 262144, 1048568, 0, 2097152, 6291456, 14680064, 0, 33554432, 134217720, 268435449, 536870905, 1073741817, 2147483643, 4294967291, 8589934587, 17179869183, 34359738367, 68719476735]
theorem impl_netOf.tab23 : rtab .any (opsOf Try.f40 23) = impl_netOf.T23 := by kernel_rfl
theorem impl_netOf.bits23 : waitsOk impl_netOf.T23.2 impl_netOf.B23 = true := by kernel_rfl
theorem step45 {x : Int} {n : Nat} (h0 : 0 ≤ x) (h1 : x < (n : Int)) (h2 : n ≤ 9223372036854775807) : wrap64 (x + 1) = x + 1 := by unfold wrap64; omega
set_option maxHeartbeats 64000000 in
set_option maxRecDepth 100000 in
theorem impl_netOf.calls (c : Nat → Nat) (A0 : Option Addr) (c0 : Nat) (l0 : List S44) (w : World) (hr0 : Kd.C k44 w A0 l0.length l0) (hc0 : l0.length ≤ c0) (hok : NetOk l0 c) :
    Calls Try.prog 40 #[.slice A0 l0.length c0] w fun e w' => ∃ (gx : Nat) (vn vf vl vw : Value) (fs ls : List (List Int)) (ws : List Nat) (oF oL : Nat → Prop), e = .returned (.pointer (some ⟨gx, 0, none⟩)) ∧ NetH w.heap.size w w' gx #[.slice A0 l0.length c0, vn, vf, vl, vw] vn vf vl vw (NL l0 l0.length) fs ls ws oF oL := by
  have hu44 := Try.underlying44
  have HR0 := Aside0.mk hr0
  have HC0 := Aside0.mk hc0
  have OKN := Aside0.mk hok
  have HB := Aside0.mk (Below.refl w.heap.size w)
  clear hr0 hc0 hok
  go_enter Try.func40, Try.ntmps40
  go_wp2_with (first | ((with_reducible refine gate_dst (N := 13) rfl ?_); (try (refine gate_guard (by rfl) ?_; dsimp only)); refine box_event ?hg (N := 13) ?hd (cs := #[.slice A0 l0.length c0, .slice none 0 0, .slice none 0 0, .slice none 0 0, .slice none 0 0]) (t := 77) ?hr ?_; (case hd => rfl); (case hg => rfl); (case hr => first | (go_simp; done) | (go_simp; rfl)); intro gx hg w1 hbox hb; have HN : Aside0 (NetH w.heap.size w w1 gx #[.slice A0 l0.length c0, .slice none 0 0, .slice none 0 0, .slice none 0 0, .slice none 0 0] (.slice none 0 0) (.slice none 0 0) (.slice none 0 0) (.slice none 0 0) [] [] [] [] (fun _ => False) (fun _ => False)) := ⟨⟨below_step (by repeat (first | (with_reducible first | exact HB.out | apply below_alloc | apply pw_below_drewN | apply below_drew1) | exact HB.out)) hb, below_size (below_step (by repeat (first | (with_reducible first | exact HB.out | apply below_alloc | apply pw_below_drewN | apply below_drew1) | exact HB.out)) hb), by rw [hg]; exact below_size (by repeat (first | (with_reducible first | exact HB.out | apply below_alloc | apply pw_below_drewN | apply below_drew1) | exact HB.out)), hbox, fun b hb_ => (by cases hb_), fun b hb_ => (by cases hb_), Kd.R_nil _ _ _ _ _, Kd.R_nil _ _ _ _ _, Kd.R_nil _ _ _ _ _, Kd.R_nil _ _ _ _ _, fun _ h_ => h_.elim⟩⟩; clear hb hbox hg HB))
  go_loopg [16] (l0.length + 1) (fun kq v16 w' => ∃ (x16 : Int) (vn vf vl vw : Value) (fs ls : List (List Int)) (ws : List Nat) (oF oL : Nat → Prop), v16 = .int .i64 x16 ∧ Aside0 (0 ≤ x16 ∧ x16 ≤ (l0.length : Int) ∧ (kq : Int) + x16 = (l0.length : Int) + 1) ∧ Aside0 (NetH w.heap.size w w' gx #[.slice A0 l0.length c0, vn, vf, vl, vw] vn vf vl vw (NL l0 x16.toNat) fs ls ws oF oL) ∧ Aside0 (Good c x16.toNat fs ∧ Good c x16.toNat ls ∧ ws.length = x16.toNat))
  case atStart => exact ⟨0, _, _, _, _, [], [], [], _, _, (by first | rfl | (simp; done) | (simp [*]; done)), ⟨by omega, by omega, by omega⟩, ⟨(by (with_reducible repeat (first | apply NetH.alloc | apply NetH.drewN | apply NetH.drew)); exact HN.out)⟩, ⟨⟨rfl, fun j hj => absurd hj (by simp)⟩, ⟨rfl, fun j hj => absurd hj (by simp)⟩, rfl⟩⟩
  case round =>
    clear HN
    obtain ⟨x16, vn, vf, vl, vw, fs, ls, ws, oF, oL, rfl, HX, HN, HG⟩ := hrel
    cases gk with
    | zero => exact absurd HX.out (by omega)
    | succ k1 =>
      by_cases hi : x16 < (l0.length : Int)
      · have c1b0 : decide (x16 < (l0.length : Int)) = true := decide_eq_true hi
        have h0 : 0 ≤ x16 := HX.out.1
        obtain ⟨ad1, A2, c2, e1, hx1_0, hx1_1, hx1_2, hx1_3, hl2, hi2⟩ := at_T44 HR0.out x16 h0 hi
        cases e1
        have HBW := HN.out.bel
        replace hx1_0 := (HBW.cell (World.block_lt_of_cell? w _ hx1_0)).trans hx1_0
        replace hx1_1 := (HBW.cell (World.block_lt_of_cell? w _ hx1_1)).trans hx1_1
        replace hx1_2 := (HBW.cell (World.block_lt_of_cell? w _ hx1_2)).trans hx1_2
        replace hx1_3 := (HBW.cell (World.block_lt_of_cell? w _ hx1_3)).trans hx1_3
        have HR2 := Aside0.mk hi2
        have HC2 := Aside0.mk hl2
        have HI := Aside0.mk (And.intro h0 hi)
        have p1 := eq_true h0
        have q1 := eq_true hi
        clear hi2 hl2 HBW h0 hi
        go_upto_region 5 with (first | ((with_reducible refine gate_dst (N := 5) rfl ?_); (try (refine gate_guard (by rfl) ?_; dsimp only)); refine box_event ?hg (N := 5) ?hd (cs := #[.int .i64 0, .string (⟨#[]⟩ : ByteArray), .slice none 0 0, .int .i64 0]) (t := 44) ?hr ?_; (case hd => rfl); (case hg => rfl); (case hr => first | (go_simp; done) | (go_simp; rfl)); intro gb hg w6 hbox hb; have GE : Aside0 (w.heap.size ≤ gb) := ⟨by rw [hg]; exact ((by (with_reducible repeat (first | apply NetH.alloc | apply NetH.drewN | apply NetH.drew)); exact HN.out) : NetH _ _ _ _ _ _ _ _ _ _ _ _ _ _ _).size⟩; have nn_ := Aside0.mk (NetH.below (by (with_reducible repeat (first | apply NetH.alloc | apply NetH.drewN | apply NetH.drew)); exact HN.out) hb); have BK := Aside0.mk hbox; clear hb hbox hg HN; have HN := nn_; clear nn_; have hcz_0 : w6.cell? ⟨gb, 0, none⟩ = some (.int .i64 0) := (blk_cell BK.out 0).trans rfl; have hcz_1 : w6.cell? ⟨gb, 1, none⟩ = some (.string (⟨#[]⟩ : ByteArray)) := (blk_cell BK.out 1).trans rfl; have hcz_2 : w6.cell? ⟨gb, 2, none⟩ = some (.slice none 0 0) := (blk_cell BK.out 2).trans rfl; have hcz_3 : w6.cell? ⟨gb, 3, none⟩ = some (.int .i64 0) := (blk_cell BK.out 3).trans rfl; have hfz_0 := blk_frozen BK.out 0; have hfz_1 := blk_frozen BK.out 1; have hfz_2 := blk_frozen BK.out 2; have hfz_3 := blk_frozen BK.out 3) | ((with_reducible refine gate_store (t := 44) (p := 5) rfl ?_); refine store_event (t := 44) (p := 5) (v := ?vo5) (w1 := ((((w6.setCell ⟨gb, 0, none⟩ (.int .i64 (rd_T44 l0 x16).f0)).setCell ⟨gb, 1, none⟩ (.string (rd_T44 l0 x16).f1)).setCell ⟨gb, 2, none⟩ (.slice A2 (rd_T44 l0 x16).f2.length c2)).setCell ⟨gb, 3, none⟩ (.int .i64 (rd_T44 l0 x16).f3))) ?hg ?ho ?hn ?hr ?_; (case ho => rfl); (case hg => rfl); (case hn => rfl); (case hr => first | (go_simp; done) | (go_simp; rfl)); intro w8 hw; have nn_ := Aside0.mk (show NetL w.heap.size w w8 gx _ vn vf vl vw _ fs ls ws oF oL gb #[.int .i64 (rd_T44 l0 x16).f0, .string (rd_T44 l0 x16).f1, .slice A2 (rd_T44 l0 x16).f2.length c2, .int .i64 (rd_T44 l0 x16).f3] (.slice none 0 0) (.slice none 0 0) [] [] (fun _ => False) (fun _ => False) from by rw [hw]; exact NetH.locals (NetH.far (NetH.far (NetH.far (NetH.far HN.out BK.out GE.out 0 _) (blk_put (cs := #[.int .i64 0, .string (⟨#[]⟩ : ByteArray), .slice none 0 0, .int .i64 0]) BK.out 0 _ rfl) GE.out 1 _) (blk_put (cs := #[.int .i64 (rd_T44 l0 x16).f0, .string (⟨#[]⟩ : ByteArray), .slice none 0 0, .int .i64 0]) (blk_put (cs := #[.int .i64 0, .string (⟨#[]⟩ : ByteArray), .slice none 0 0, .int .i64 0]) BK.out 0 _ rfl) 1 _ rfl) GE.out 2 _) (blk_put (cs := #[.int .i64 (rd_T44 l0 x16).f0, .string (rd_T44 l0 x16).f1, .slice none 0 0, .int .i64 0]) (blk_put (cs := #[.int .i64 (rd_T44 l0 x16).f0, .string (⟨#[]⟩ : ByteArray), .slice none 0 0, .int .i64 0]) (blk_put (cs := #[.int .i64 0, .string (⟨#[]⟩ : ByteArray), .slice none 0 0, .int .i64 0]) BK.out 0 _ rfl) 1 _ rfl) 2 _ rfl) GE.out 3 _) (blk_put (cs := #[.int .i64 (rd_T44 l0 x16).f0, .string (rd_T44 l0 x16).f1, .slice A2 (rd_T44 l0 x16).f2.length c2, .int .i64 0]) (blk_put (cs := #[.int .i64 (rd_T44 l0 x16).f0, .string (rd_T44 l0 x16).f1, .slice none 0 0, .int .i64 0]) (blk_put (cs := #[.int .i64 (rd_T44 l0 x16).f0, .string (⟨#[]⟩ : ByteArray), .slice none 0 0, .int .i64 0]) (blk_put (cs := #[.int .i64 0, .string (⟨#[]⟩ : ByteArray), .slice none 0 0, .int .i64 0]) BK.out 0 _ rfl) 1 _ rfl) 2 _ rfl) 3 _ rfl)); clear hw hcz_0 hcz_1 hcz_2 hcz_3 hfz_0 hfz_1 hfz_2 hfz_3 HN BK; have HN := nn_; clear nn_; have hcz_0 : w8.cell? ⟨gb, 0, none⟩ = some (.int .i64 (rd_T44 l0 x16).f0) := (blk_cell HN.out.gbx 0).trans rfl; have hcz_1 : w8.cell? ⟨gb, 1, none⟩ = some (.string (rd_T44 l0 x16).f1) := (blk_cell HN.out.gbx 1).trans rfl; have hcz_2 : w8.cell? ⟨gb, 2, none⟩ = some (.slice A2 (rd_T44 l0 x16).f2.length c2) := (blk_cell HN.out.gbx 2).trans rfl; have hcz_3 : w8.cell? ⟨gb, 3, none⟩ = some (.int .i64 (rd_T44 l0 x16).f3) := (blk_cell HN.out.gbx 3).trans rfl; have hfz_0 := blk_frozen HN.out.gbx 0; have hfz_1 := blk_frozen HN.out.gbx 1; have hfz_2 := blk_frozen HN.out.gbx 2; have hfz_3 := blk_frozen HN.out.gbx 3))
        go_upto_region 6 with (first | ((with_reducible refine gate_dst (N := 24) rfl ?_); (try (refine gate_guard (by rfl) ?_; dsimp only)); refine Kd.R_lit kI _ 2 ?hg (N := 24) ?hd (xs := ([] : List Int)) (inner := []) (ok := fun _ => True) (okp := fun _ => True) ?hr ?hp (fun _ hk => hk) trivial (Below.refl _ _) (Nat.le_refl _) (by simp) ?_; (case hd => rfl); (case hg => rfl); (case hr => first | (go_simp; done) | (go_simp; rfl)); (case hp => exact (Reps.none _ _)); intro v24 wl ho hb hg_ hnew_; clear hg_ hnew_; have nn_ := Aside0.mk (NetL.new7 (by (with_reducible repeat (first | apply NetL.alloc | apply NetL.drewN | apply NetL.drew)); exact HN.out) hb ho); clear ho hb; clear HN hcz_0 hcz_1 hcz_2 hcz_3 hfz_0 hfz_1 hfz_2 hfz_3; have HN := nn_; clear nn_; have hcz_0 : wl.cell? ⟨gb, 0, none⟩ = some (.int .i64 (rd_T44 l0 x16).f0) := (blk_cell HN.out.gbx 0).trans rfl; have hcz_1 : wl.cell? ⟨gb, 1, none⟩ = some (.string (rd_T44 l0 x16).f1) := (blk_cell HN.out.gbx 1).trans rfl; have hcz_2 : wl.cell? ⟨gb, 2, none⟩ = some (.slice A2 (rd_T44 l0 x16).f2.length c2) := (blk_cell HN.out.gbx 2).trans rfl; have hcz_3 : wl.cell? ⟨gb, 3, none⟩ = some (.int .i64 (rd_T44 l0 x16).f3) := (blk_cell HN.out.gbx 3).trans rfl; have hfz_0 := blk_frozen HN.out.gbx 0; have hfz_1 := blk_frozen HN.out.gbx 1; have hfz_2 := blk_frozen HN.out.gbx 2; have hfz_3 := blk_frozen HN.out.gbx 3) | ((with_reducible refine gate_dst (N := 25) rfl ?_); (try (refine gate_guard (by rfl) ?_; dsimp only)); refine Kd.R_lit kI _ 2 ?hg (N := 25) ?hd (xs := ([] : List Int)) (inner := []) (ok := fun _ => True) (okp := fun _ => True) ?hr ?hp (fun _ hk => hk) trivial (Below.refl _ _) (Nat.le_refl _) (by simp) ?_; (case hd => rfl); (case hg => rfl); (case hr => first | (go_simp; done) | (go_simp; rfl)); (case hp => exact (Reps.none _ _)); intro v25 wl ho hb hg_ hnew_; clear hg_ hnew_; have nn_ := Aside0.mk (NetL.swap (NetL.new7 (NetL.swap (by (with_reducible repeat (first | apply NetL.alloc | apply NetL.drewN | apply NetL.drew)); exact HN.out)) hb ho)); clear ho hb; clear HN hcz_0 hcz_1 hcz_2 hcz_3 hfz_0 hfz_1 hfz_2 hfz_3; have HN := nn_; clear nn_; have hcz_0 : wl.cell? ⟨gb, 0, none⟩ = some (.int .i64 (rd_T44 l0 x16).f0) := (blk_cell HN.out.gbx 0).trans rfl; have hcz_1 : wl.cell? ⟨gb, 1, none⟩ = some (.string (rd_T44 l0 x16).f1) := (blk_cell HN.out.gbx 1).trans rfl; have hcz_2 : wl.cell? ⟨gb, 2, none⟩ = some (.slice A2 (rd_T44 l0 x16).f2.length c2) := (blk_cell HN.out.gbx 2).trans rfl; have hcz_3 : wl.cell? ⟨gb, 3, none⟩ = some (.int .i64 (rd_T44 l0 x16).f3) := (blk_cell HN.out.gbx 3).trans rfl; have hfz_0 := blk_frozen HN.out.gbx 0; have hfz_1 := blk_frozen HN.out.gbx 1; have hfz_2 := blk_frozen HN.out.gbx 2; have hfz_3 := blk_frozen HN.out.gbx 3))
        have hcx_4 : wl.cell? ⟨gx, 4, none⟩ = some vw := (blk_cell HN.out.net.box 4).trans rfl
        have hfx_4 := blk_frozen HN.out.net.box 4
        go_upto_region 7 with (first | ((with_reducible refine gate_dst (N := 31) rfl ?_); refine map_event rfl 78 rfl ?_; intro bm wm him hb hbm; have nn_ := Aside0.mk (NetL.below (by (with_reducible repeat (first | apply NetL.alloc | apply NetL.drewN | apply NetL.drew)); exact HN.out) hb); have IM := Aside0.mk him; have BM : Aside0 (w.heap.size ≤ bm) := ⟨by rw [hbm]; exact ((by (with_reducible repeat (first | apply NetL.alloc | apply NetL.drewN | apply NetL.drew)); exact HN.out) : NetL _ _ _ _ _ _ _ _ _ _ _ _ _ _ _ _ _ _ _ _ _ _ _).net.size⟩; clear him hb hbm hcx_4 hfx_4; clear HN hcz_0 hcz_1 hcz_2 hcz_3 hfz_0 hfz_1 hfz_2 hfz_3; have HN := nn_; clear nn_; have hcz_0 : wm.cell? ⟨gb, 0, none⟩ = some (.int .i64 (rd_T44 l0 x16).f0) := (blk_cell HN.out.gbx 0).trans rfl; have hcz_1 : wm.cell? ⟨gb, 1, none⟩ = some (.string (rd_T44 l0 x16).f1) := (blk_cell HN.out.gbx 1).trans rfl; have hcz_2 : wm.cell? ⟨gb, 2, none⟩ = some (.slice A2 (rd_T44 l0 x16).f2.length c2) := (blk_cell HN.out.gbx 2).trans rfl; have hcz_3 : wm.cell? ⟨gb, 3, none⟩ = some (.int .i64 (rd_T44 l0 x16).f3) := (blk_cell HN.out.gbx 3).trans rfl; have hfz_0 := blk_frozen HN.out.gbx 0; have hfz_1 := blk_frozen HN.out.gbx 1; have hfz_2 := blk_frozen HN.out.gbx 2; have hfz_3 := blk_frozen HN.out.gbx 3; have hcx_4 : wm.cell? ⟨gx, 4, none⟩ = some vw := (blk_cell HN.out.net.box 4).trans rfl; have hfx_4 := blk_frozen HN.out.net.box 4) | ((with_reducible refine gate_builtin (b := .append) (xs := #[.tmp 30, .tmp 32]) rfl ?_); (try (refine gate_guard (by rfl) ?_; dsimp only)); at_builtin; refine Kd.R_append kMap (w0 := w) w.heap.size rfl (.tmp 30) (.tmp 32) 75 78 (.map none) 8 rfl Try.underlying75 info78 rfl (by decide) (by omega) vw ws bm [.map (some bm)] (fun _ => True) (fun _ => False) rfl rfl ?aP (fun _ hk => hk.elim) ?aF ?aO ?aB ?aS ?aL ?_; (case aP => exact rfl); (case aF => exact (fun _ _ => trivial)); (case aO => exact ((by (with_reducible repeat (first | apply NetL.alloc | apply NetL.drewN | apply NetL.drew)); exact HN.out) : NetL _ _ _ _ _ _ _ _ _ _ _ _ _ _ _ _ _ _ _ _ _ _ _).net.rW); (case aB => exact ((by (with_reducible repeat (first | apply NetL.alloc | apply NetL.drewN | apply NetL.drew)); exact HN.out) : NetL _ _ _ _ _ _ _ _ _ _ _ _ _ _ _ _ _ _ _ _ _ _ _).net.bel); (case aS => exact ((by (with_reducible repeat (first | apply NetL.alloc | apply NetL.drewN | apply NetL.drew)); exact HN.out) : NetL _ _ _ _ _ _ _ _ _ _ _ _ _ _ _ _ _ _ _ _ _ _ _).net.size); (case aL => have := HG.out.2.2; have := HI.out; have := OKN.out.len; omega); intro v33 wa ho hb hg hat; have nn_ := Aside0.mk (NetL.appW (by (with_reducible repeat (first | apply NetL.alloc | apply NetL.drewN | apply NetL.drew)); exact HN.out) IM.out BM.out hg ho); have hsl := Kd.R_slice ho; clear ho hb hg hat hcx_4 hfx_4; obtain ⟨aw, cw, rfl⟩ := hsl; clear HN hcz_0 hcz_1 hcz_2 hcz_3 hfz_0 hfz_1 hfz_2 hfz_3; have HN := nn_; clear nn_; have hcz_0 : wa.cell? ⟨gb, 0, none⟩ = some (.int .i64 (rd_T44 l0 x16).f0) := (blk_cell HN.out.gbx 0).trans rfl; have hcz_1 : wa.cell? ⟨gb, 1, none⟩ = some (.string (rd_T44 l0 x16).f1) := (blk_cell HN.out.gbx 1).trans rfl; have hcz_2 : wa.cell? ⟨gb, 2, none⟩ = some (.slice A2 (rd_T44 l0 x16).f2.length c2) := (blk_cell HN.out.gbx 2).trans rfl; have hcz_3 : wa.cell? ⟨gb, 3, none⟩ = some (.int .i64 (rd_T44 l0 x16).f3) := (blk_cell HN.out.gbx 3).trans rfl; have hfz_0 := blk_frozen HN.out.gbx 0; have hfz_1 := blk_frozen HN.out.gbx 1; have hfz_2 := blk_frozen HN.out.gbx 2; have hfz_3 := blk_frozen HN.out.gbx 3; have hcx_4 : wa.cell? ⟨gx, 4, none⟩ = some vw := (blk_cell HN.out.net.box 4).trans rfl; have hfx_4 := blk_frozen HN.out.net.box 4) | ((with_reducible refine gate_store (t := 75) (p := 35) rfl ?_); refine store_event (t := 75) (p := 35) (v := ?vo35) (w1 := (wa.setCell ⟨gx, 4, none⟩ (.slice aw (ws ++ [bm]).length cw))) ?hg ?ho ?hn ?hr ?_; (case ho => rfl); (case hg => rfl); (case hn => rfl); (case hr => first | (go_simp; done) | (go_simp; rfl)); intro wb hw; have nn_ := Aside0.mk (NetL.put HN.out 4 (.slice aw (ws ++ [bm]).length cw)); rw [← hw] at nn_; clear hw hcx_4 hfx_4; clear HN hcz_0 hcz_1 hcz_2 hcz_3 hfz_0 hfz_1 hfz_2 hfz_3; have HN := nn_; clear nn_; have hcz_0 : wb.cell? ⟨gb, 0, none⟩ = some (.int .i64 (rd_T44 l0 x16).f0) := (blk_cell HN.out.gbx 0).trans rfl; have hcz_1 : wb.cell? ⟨gb, 1, none⟩ = some (.string (rd_T44 l0 x16).f1) := (blk_cell HN.out.gbx 1).trans rfl; have hcz_2 : wb.cell? ⟨gb, 2, none⟩ = some (.slice A2 (rd_T44 l0 x16).f2.length c2) := (blk_cell HN.out.gbx 2).trans rfl; have hcz_3 : wb.cell? ⟨gb, 3, none⟩ = some (.int .i64 (rd_T44 l0 x16).f3) := (blk_cell HN.out.gbx 3).trans rfl; have hfz_0 := blk_frozen HN.out.gbx 0; have hfz_1 := blk_frozen HN.out.gbx 1; have hfz_2 := blk_frozen HN.out.gbx 2; have hfz_3 := blk_frozen HN.out.gbx 3))
        obtain ⟨ws1, hws1⟩ : ∃ y_, y_ = ws ++ [bm] := ⟨_, rfl⟩
        have HWL : Aside0 (ws1.length = x16.toNat + 1) := ⟨by rw [hws1, List.length_append, HG.out.2.2]; rfl⟩
        obtain ⟨oF1, oL1, o71, o81, hn⟩ : ∃ oF' oL' o7' o8', NetL w.heap.size w wb gx #[.slice (some ad1) l0.length c0, vn, vf, vl, (.slice aw ws1.length cw)] vn vf vl (.slice aw ws1.length cw) (NL l0 x16.toNat) fs ls ws1 oF' oL' gb #[.int .i64 (rd_T44 l0 x16).f0, .string (rd_T44 l0 x16).f1, .slice A2 (rd_T44 l0 x16).f2.length c2, .int .i64 (rd_T44 l0 x16).f3] v24 v25 [] [] o7' o8' := ⟨_, _, _, _, by rw [hws1]; exact HN.out⟩
        (try rw [show (ws ++ [bm]).length = ws1.length by rw [hws1]])
        clear HN IM BM hws1
        have HN := Aside0.mk hn
        clear hn
        obtain ⟨pb, hpb⟩ : ∃ r, impl_PNode_isPosition.f (rd_T44 l0 x16).f0 (rd_T44 l0 x16).f1 (rd_T44 l0 x16).f2 (rd_T44 l0 x16).f3 = some r := by unfold impl_PNode_isPosition.f; split <;> exact ⟨_, rfl⟩
        have HPB := Aside0.mk hpb
        clear hpb
        go_upto_if 37 with (first | ((with_reducible refine gate_callee (f := 37) rfl ?_); refine goesL_ (some 37) rfl rfl Try.func37 (by kernel_rfl) rfl #[.agg #[.int .i64 (rd_T44 l0 x16).f0, .string (rd_T44 l0 x16).f1, .slice A2 (rd_T44 l0 x16).f2.length c2, .int .i64 (rd_T44 l0 x16).f3]] rfl (by (try simp only [List.map_toArray, List.map_cons, List.map_nil]); first | done | rfl | (simp only [List.length_drop, List.length_take]; rfl)) ?_; (with_reducible refine (impl_PNode_isPosition.calls (rd_T44 l0 x16).f0 (rd_T44 l0 x16).f1 A2 c2 (rd_T44 l0 x16).f2 (rd_T44 l0 x16).f3 _ _ ?side1 HC2.out HPB.out).mono ?_); (case side1 => exact Kd.C_below HR2.out ((by (with_reducible repeat (first | apply NetL.alloc | apply NetL.drewN | apply NetL.drew)); exact HN.out) : NetL _ _ _ _ _ _ _ _ _ _ _ _ _ _ _ _ _ _ _ _ _ _ _).net.bel); rintro e wp ⟨rfl, hb⟩; refine ⟨_, rfl, ?_⟩; have nn_ := Aside0.mk (NetL.below (by (with_reducible repeat (first | apply NetL.alloc | apply NetL.drewN | apply NetL.drew)); exact HN.out) hb); clear hb; clear HN hcz_0 hcz_1 hcz_2 hcz_3 hfz_0 hfz_1 hfz_2 hfz_3; have HN := nn_; clear nn_; have hcz_0 : wp.cell? ⟨gb, 0, none⟩ = some (.int .i64 (rd_T44 l0 x16).f0) := (blk_cell HN.out.gbx 0).trans rfl; have hcz_1 : wp.cell? ⟨gb, 1, none⟩ = some (.string (rd_T44 l0 x16).f1) := (blk_cell HN.out.gbx 1).trans rfl; have hcz_2 : wp.cell? ⟨gb, 2, none⟩ = some (.slice A2 (rd_T44 l0 x16).f2.length c2) := (blk_cell HN.out.gbx 2).trans rfl; have hcz_3 : wp.cell? ⟨gb, 3, none⟩ = some (.int .i64 (rd_T44 l0 x16).f3) := (blk_cell HN.out.gbx 3).trans rfl; have hfz_0 := blk_frozen HN.out.gbx 0; have hfz_1 := blk_frozen HN.out.gbx 1; have hfz_2 := blk_frozen HN.out.gbx 2; have hfz_3 := blk_frozen HN.out.gbx 3))
        (try simp only [Act.put, List.setIfInBounds_toArray, List.set_cons_zero, List.set_cons_succ])
        go_cut [7, 8] (fun v7 v8 wc => ∃ (l7 l8 : List Int) (oF' oL' o7' o8' : Nat → Prop), Aside0 (NetL w.heap.size w wc gx #[.slice (some ad1) l0.length c0, vn, vf, vl, (.slice aw ws1.length cw)] vn vf vl (.slice aw ws1.length cw) (NL l0 x16.toNat) fs ls ws1 oF' oL' gb #[.int .i64 (rd_T44 l0 x16).f0, .string (rd_T44 l0 x16).f1, .slice A2 (rd_T44 l0 x16).f2.length c2, .int .i64 (rd_T44 l0 x16).f3] v7 v8 l7 l8 o7' o8') ∧ Aside0 ((l7 = [] ∨ l7 = [x16]) ∧ (l8 = [] ∨ l8 = [x16])))
        case first =>
          cases pb
          case true =>
            go_wp2_with (first | ((with_reducible refine gate_dst (N := 39) rfl ?_); (try (refine gate_guard (by rfl) ?_; dsimp only)); refine Kd.R_lit kI _ 2 ?hg (N := 39) ?hd (xs := ([x16] : List Int)) (inner := [.int .i64 x16]) (ok := fun _ => True) (okp := fun _ => True) ?hr ?hp (fun _ hk => hk) trivial (Below.refl _ _) (Nat.le_refl _) (by simp) ?_; (case hd => rfl); (case hg => rfl); (case hr => first | (go_simp; done) | (go_simp; rfl)); (case hp => exact (Reps.one (show Kd.M kI _ _ _ x16 [.int .i64 x16] from rfl) (Reps.none _ _))); intro v39 wl ho hb hg_ hnew_; clear hg_ hnew_; have nn_ := Aside0.mk (NetL.new7 (by (with_reducible repeat (first | apply NetL.alloc | apply NetL.drewN | apply NetL.drew)); exact HN.out) hb ho); clear ho hb; clear HN hcz_0 hcz_1 hcz_2 hcz_3 hfz_0 hfz_1 hfz_2 hfz_3; have HN := nn_; clear nn_; have hcz_0 : wl.cell? ⟨gb, 0, none⟩ = some (.int .i64 (rd_T44 l0 x16).f0) := (blk_cell HN.out.gbx 0).trans rfl; have hcz_1 : wl.cell? ⟨gb, 1, none⟩ = some (.string (rd_T44 l0 x16).f1) := (blk_cell HN.out.gbx 1).trans rfl; have hcz_2 : wl.cell? ⟨gb, 2, none⟩ = some (.slice A2 (rd_T44 l0 x16).f2.length c2) := (blk_cell HN.out.gbx 2).trans rfl; have hcz_3 : wl.cell? ⟨gb, 3, none⟩ = some (.int .i64 (rd_T44 l0 x16).f3) := (blk_cell HN.out.gbx 3).trans rfl; have hfz_0 := blk_frozen HN.out.gbx 0; have hfz_1 := blk_frozen HN.out.gbx 1; have hfz_2 := blk_frozen HN.out.gbx 2; have hfz_3 := blk_frozen HN.out.gbx 3) | ((with_reducible refine gate_dst (N := 41) rfl ?_); (try (refine gate_guard (by rfl) ?_; dsimp only)); refine Kd.R_lit kI _ 2 ?hg (N := 41) ?hd (xs := ([x16] : List Int)) (inner := [.int .i64 x16]) (ok := fun _ => True) (okp := fun _ => True) ?hr ?hp (fun _ hk => hk) trivial (Below.refl _ _) (Nat.le_refl _) (by simp) ?_; (case hd => rfl); (case hg => rfl); (case hr => first | (go_simp; done) | (go_simp; rfl)); (case hp => exact (Reps.one (show Kd.M kI _ _ _ x16 [.int .i64 x16] from rfl) (Reps.none _ _))); intro v41 wl ho hb hg_ hnew_; clear hg_ hnew_; have nn_ := Aside0.mk (NetL.swap (NetL.new7 (NetL.swap (by (with_reducible repeat (first | apply NetL.alloc | apply NetL.drewN | apply NetL.drew)); exact HN.out)) hb ho)); clear ho hb; clear HN hcz_0 hcz_1 hcz_2 hcz_3 hfz_0 hfz_1 hfz_2 hfz_3; have HN := nn_; clear nn_; have hcz_0 : wl.cell? ⟨gb, 0, none⟩ = some (.int .i64 (rd_T44 l0 x16).f0) := (blk_cell HN.out.gbx 0).trans rfl; have hcz_1 : wl.cell? ⟨gb, 1, none⟩ = some (.string (rd_T44 l0 x16).f1) := (blk_cell HN.out.gbx 1).trans rfl; have hcz_2 : wl.cell? ⟨gb, 2, none⟩ = some (.slice A2 (rd_T44 l0 x16).f2.length c2) := (blk_cell HN.out.gbx 2).trans rfl; have hcz_3 : wl.cell? ⟨gb, 3, none⟩ = some (.int .i64 (rd_T44 l0 x16).f3) := (blk_cell HN.out.gbx 3).trans rfl; have hfz_0 := blk_frozen HN.out.gbx 0; have hfz_1 := blk_frozen HN.out.gbx 1; have hfz_2 := blk_frozen HN.out.gbx 2; have hfz_3 := blk_frozen HN.out.gbx 3))
            go_meet
            case rel => exact ⟨[x16], [x16], _, _, _, _, ⟨(by (with_reducible repeat (first | apply NetL.alloc | apply NetL.drewN | apply NetL.drew)); exact HN.out)⟩, ⟨.inr rfl, .inr rfl⟩⟩
          case false =>
            go_wp2
            go_meet
            case rel => exact ⟨[], [], _, _, _, _, ⟨(by (with_reducible repeat (first | apply NetL.alloc | apply NetL.drewN | apply NetL.drew)); exact HN.out)⟩, ⟨.inl rfl, .inl rfl⟩⟩
        case rest =>
          clear HN
          try clear hcz_0 hcz_1 hcz_2 hcz_3 hfz_0 hfz_1 hfz_2 hfz_3 hcx_4 hfx_4
          obtain ⟨l7, l8, oF2, oL2, o72, o82, HN, HLL⟩ := hcut
          obtain ⟨n2, hn2⟩ : ∃ n_, n_ = (rd_T44 l0 x16).f2.length := ⟨_, rfl⟩
          have N2 := Aside0.mk hn2
          clear hn2
          have hcz_0 : wc.cell? ⟨gb, 0, none⟩ = some (.int .i64 (rd_T44 l0 x16).f0) := (blk_cell HN.out.gbx 0).trans rfl
          have hcz_1 : wc.cell? ⟨gb, 1, none⟩ = some (.string (rd_T44 l0 x16).f1) := (blk_cell HN.out.gbx 1).trans rfl
          have hcz_2 : wc.cell? ⟨gb, 2, none⟩ = some (.slice A2 (rd_T44 l0 x16).f2.length c2) := (blk_cell HN.out.gbx 2).trans rfl
          have hcz_3 : wc.cell? ⟨gb, 3, none⟩ = some (.int .i64 (rd_T44 l0 x16).f3) := (blk_cell HN.out.gbx 3).trans rfl
          have hfz_0 := blk_frozen HN.out.gbx 0
          have hfz_1 := blk_frozen HN.out.gbx 1
          have hfz_2 := blk_frozen HN.out.gbx 2
          have hfz_3 := blk_frozen HN.out.gbx 3
          go_wp2
          go_loopg [6, 7, 8, 45] (n2 + 1) (fun kq v6 v7 v8 v45 w' => ∃ (x6 : Bool) (x45 : Int) (l7 l8 : List Int) (oF' oL' o7' o8' : Nat → Prop), v6 = .bool x6 ∧ v45 = .int .i64 x45 ∧ Aside0 (0 ≤ x45 ∧ x45 ≤ (n2 : Int) ∧ (kq : Int) + x45 = (n2 : Int) + 1) ∧ Aside0 (NetL w.heap.size w w' gx #[.slice (some ad1) l0.length c0, vn, vf, vl, (.slice aw ws1.length cw)] vn vf vl (.slice aw ws1.length cw) (NL l0 x16.toNat) fs ls ws1 oF' oL' gb #[.int .i64 (rd_T44 l0 x16).f0, .string (rd_T44 l0 x16).f1, .slice A2 (rd_T44 l0 x16).f2.length c2, .int .i64 (rd_T44 l0 x16).f3] v7 v8 l7 l8 o7' o8') ∧ Aside0 (nvk (rd_T44 l0 x16).f0 (NL l0 x16.toNat) ((rd_T44 l0 x16).f2.drop x45.toNat) x6 = nvk (rd_T44 l0 x16).f0 (NL l0 x16.toNat) (rd_T44 l0 x16).f2 ((rd_T44 l0 x16).f0 == 2)) ∧ Aside0 (Loc c (rd_T44 l0 x16).f2 x45 x16 l7 l8))
          case atStart => exact ⟨_, 0, l7, l8, _, _, _, _, (by first | rfl | (simp; done) | (simp [*]; done)), (by first | rfl | (simp; done) | (simp [*]; done)), ⟨by omega, by omega, by omega⟩, ⟨(by (with_reducible repeat (first | apply NetL.alloc | apply NetL.drewN | apply NetL.drew)); exact HN.out)⟩, ⟨rfl⟩, ⟨Loc.start HLL.out (HI.out.1)⟩⟩
          case round =>
            clear HN HLL
            try clear hcz_0 hcz_1 hcz_2 hcz_3 hfz_0 hfz_1 hfz_2 hfz_3
            obtain ⟨x6, x45, l7, l8, oF3, oL3, o73, o83, rfl, rfl, HY, HN, HNV, HLC⟩ := hrel
            cases gk with
            | zero => exact absurd HY.out (by omega)
            | succ k2 =>
              have hcz_0 : wr.cell? ⟨gb, 0, none⟩ = some (.int .i64 (rd_T44 l0 x16).f0) := (blk_cell HN.out.gbx 0).trans rfl
              have hcz_1 : wr.cell? ⟨gb, 1, none⟩ = some (.string (rd_T44 l0 x16).f1) := (blk_cell HN.out.gbx 1).trans rfl
              have hcz_2 : wr.cell? ⟨gb, 2, none⟩ = some (.slice A2 (rd_T44 l0 x16).f2.length c2) := (blk_cell HN.out.gbx 2).trans rfl
              have hcz_3 : wr.cell? ⟨gb, 3, none⟩ = some (.int .i64 (rd_T44 l0 x16).f3) := (blk_cell HN.out.gbx 3).trans rfl
              have hfz_0 := blk_frozen HN.out.gbx 0
              have hfz_1 := blk_frozen HN.out.gbx 1
              have hfz_2 := blk_frozen HN.out.gbx 2
              have hfz_3 := blk_frozen HN.out.gbx 3
              by_cases hj : x45 < (n2 : Int)
              · have c5b0 : decide (x45 < (n2 : Int)) = true := decide_eq_true hj
                have h0 : 0 ≤ x45 := HY.out.1
                have hj2 : x45 < ((rd_T44 l0 x16).f2.length : Int) := by rw [← N2.out]; exact hj
                obtain ⟨ad2, e2, hx2⟩ := Kd.at_int (Kd.C_below HR2.out HN.out.net.bel) x45 h0 hj2
                cases e2
                obtain ⟨kd, hkd⟩ : ∃ z, z = rd (rd_T44 l0 x16).f2 x45 := ⟨_, rfl⟩
                rw [← hkd] at hx2
                have KD := Aside0.mk (kid_range OKN.out HI.out.1 HI.out.2 h0 hj2 hkd)
                have HKD := Aside0.mk hkd
                have HJ := Aside0.mk (And.intro h0 hj2)
                have p2 := eq_true h0
                have q2 := eq_true hj2
                clear hkd h0 hj hj2
                by_cases c3 : (rd_T44 l0 x16).f0 = 3
                · as_aux_lemma =>
                    have c3b0 : ((rd_T44 l0 x16).f0 == 3) = true := beq_iff_eq.mpr c3
                    clear c3
                    have C3 := Aside0.mk (eq_of_beq c3b0)
                    go_upto_region 13 with fail
                    have hfl : x16.toNat = fs.length := HG.out.1.1.symm
                    have hll : x16.toNat = ls.length := HG.out.2.1.1.symm
                    have hkr := KD.out
                    have hx0 := HI.out.1
                    obtain ⟨gn, cn, en, _, _, cln, hgn⟩ := Kd.R_form HN.out.net.rN (by rw [NL_length]; omega)
                    obtain ⟨gf, cf, ef, _, _, clf, hgf⟩ := Kd.R_form HN.out.net.rF (by omega)
                    obtain ⟨gl, cl, el, _, _, cll, hgl⟩ := Kd.R_form HN.out.net.rL (by omega)
                    subst en
                    subst ef
                    subst el
                    have hkn : kd < ((NL l0 x16.toNat).length : Int) := by rw [NL_length]; omega
                    have hkf : kd < (fs.length : Int) := by omega
                    have hkl : kd < (ls.length : Int) := by omega
                    obtain ⟨adn, e3, hxn⟩ := Kd.at_bool (Kd.R_reads' HN.out.net.rN).2.2 kd hkr.1 hkn
                    cases e3
                    obtain ⟨adf, Af, cf2, e4, hxf, hlf, hCf⟩ := at_rows (Kd.R_reads' HN.out.net.rF).2.2 kd hkr.1 hkf
                    cases e4
                    obtain ⟨adl, Al, cl2, e5, hxl, hlll, hCl⟩ := at_rows (Kd.R_reads' HN.out.net.rL).2.2 kd hkr.1 hkl
                    cases e5
                    rw [add_plain] at hxn hxf hxl
                    have GF := HG.out.1.at hkr.1 hkr.2
                    have GL_ := HG.out.2.1.at hkr.1 hkr.2
                    obtain ⟨lf, hlfe⟩ : ∃ l_, l_ = rdOf [] fs kd := ⟨_, rfl⟩
                    obtain ⟨ll, hlle⟩ : ∃ l_, l_ = rdOf [] ls kd := ⟨_, rfl⟩
                    obtain ⟨bk, hbk⟩ : ∃ b_, b_ = rdOf false (NL l0 x16.toNat) kd := ⟨_, rfl⟩
                    rw [← hlfe] at hxf hlf hCf GF
                    rw [← hlle] at hxl hlll hCl GL_
                    rw [← hbk] at hxn
                    have GFA := Aside0.mk GF
                    have GLA := Aside0.mk GL_
                    have HBK := Aside0.mk hbk
                    have HLE := Aside0.mk hlle
                    have HFE := Aside0.mk hlfe
                    have HCF := Aside0.mk hCf
                    have HCL := Aside0.mk hCl
                    have GN_ := Aside0.mk hgn
                    have GF_ := Aside0.mk hgf
                    have GL2 := Aside0.mk hgl
                    have KLL := Aside0.mk hkl
                    have LB := Aside0.mk (Loc.small OKN.out HI.out.1 HI.out.2 HLC.out)
                    have CB : Aside0 (c kd.toNat ≤ 40) := ⟨OKN.out.le kd.toNat (by have := HI.out.2; omega)⟩
                    have p3 := eq_true hkr.1
                    have q3n := eq_true hkn
                    have q3f := eq_true hkf
                    have q3l := eq_true hkl
                    clear hfl hll hkr hx0 hkn hkf hkl GF GL_ hlfe hlle hbk hCf hCl hgn hgf hgl hlf hlll
                    have nn_ := Aside0.mk (NetL.drew HN.out)
                    clear HN
                    have HN := nn_
                    clear nn_
                    have hs_1 : wr.drew.cell? ⟨gx, 1, none⟩ = some (.slice (some ⟨gn, 0, none⟩) (NL l0 x16.toNat).length cn) := (blk_cell HN.out.net.box 1).trans rfl
                    have hs_2 : wr.drew.cell? ⟨gx, 2, none⟩ = some (.slice (some ⟨gf, 0, none⟩) fs.length cf) := (blk_cell HN.out.net.box 2).trans rfl
                    have hs_3 : wr.drew.cell? ⟨gx, 3, none⟩ = some (.slice (some ⟨gl, 0, none⟩) ls.length cl) := (blk_cell HN.out.net.box 3).trans rfl
                    have hs_4 : wr.drew.cell? ⟨gn, kd.toNat, none⟩ = some (.bool bk) := hxn
                    have hs_5 : wr.drew.cell? ⟨gf, kd.toNat, none⟩ = some (.slice Af lf.length cf2) := hxf
                    have hs_6 : wr.drew.cell? ⟨gl, kd.toNat, none⟩ = some (.slice Al ll.length cl2) := hxl
                    have nf_ : Aside0 (kI.C wr.drew Af lf.length lf) := ⟨HCF.out⟩
                    have nl_ : Aside0 (kI.C wr.drew Al ll.length ll) := ⟨HCL.out⟩
                    have nGN_ : Aside0 (wr.drew.heap[gn]? = some (.cells cln 4 (0, 0))) := ⟨GN_.out⟩
                    have nGF_ : Aside0 (wr.drew.heap[gf]? = some (.cells clf 41 (0, 0))) := ⟨GF_.out⟩
                    have nGL2 : Aside0 (wr.drew.heap[gl]? = some (.cells cll 41 (0, 0))) := ⟨GL2.out⟩
                    clear HCF HCL GN_ GF_ GL2 hxn hxf hxl hcz_0 hcz_1 hcz_3 hfz_0 hfz_1 hfz_2 hfz_3
                    try clear hcz_2
                    cases x6
                    case true =>
                      as_aux_lemma =>
                        refine start_ (n := 31) (S := fun w' => w'.cell? ⟨gx, 1, none⟩ = some (.slice (some ⟨gn, 0, none⟩) (NL l0 x16.toNat).length cn) ∧ w'.cell? ⟨gx, 2, none⟩ = some (.slice (some ⟨gf, 0, none⟩) fs.length cf) ∧ w'.cell? ⟨gx, 3, none⟩ = some (.slice (some ⟨gl, 0, none⟩) ls.length cl) ∧ w'.cell? ⟨gn, kd.toNat, none⟩ = some (.bool bk) ∧ w'.cell? ⟨gf, kd.toNat, none⟩ = some (.slice Af lf.length cf2) ∧ w'.cell? ⟨gl, kd.toNat, none⟩ = some (.slice Al ll.length cl2)) (ds := []) (bL 31 0) (by kernel_rfl) rfl (by kernel_rfl) ⟨hs_1, hs_2, hs_3, hs_4, hs_5, hs_6⟩ (fun hHeld => ?_)
                        refine with_tabW impl_netOf.tab13 impl_netOf.bits13 (fun HT_ HW_ => ?_)
                        generalize wr.drew = w12 at HN hs_1 hs_2 hs_3 hs_4 hs_5 hs_6 nf_ nl_ nGN_ nGF_ nGL2 hHeld ⊢
                        refine pure_ (i := 0) (N := some 52) (v := ?_) (a' := ?_) (bL 31 1) rfl rfl (any_of HT_.out (by kernel_rfl)) (fun _ _ _ h => h) (Or.inl ⟨by rfl, ?_⟩) ?_ ?_
                        rotate_left
                        ·intro w'
                         go_simp
                         with_reducible rfl
                        rotate_left
                        ·simp only [Act.put, List.setIfInBounds_toArray, List.set_cons_zero, List.set_cons_succ, i64_w, i32_w]
                         rfl
                        refine pure_ (i := 1) (N := some 53) (v := ?_) (a' := ?_) (bL 31 3) rfl rfl (any_of HT_.out (by kernel_rfl)) (fun _ _ _ h => h) (Or.inl ⟨by rfl, ?_⟩) ?_ ?_
                        rotate_left
                        ·intro w'
                         go_simp
                         with_reducible rfl
                        rotate_left
                        ·simp only [Act.put, List.setIfInBounds_toArray, List.set_cons_zero, List.set_cons_succ, i64_w, i32_w]
                         rfl
                        refine pure_ (i := 2) (N := some 54) (v := undef) (a' := ?_) (bL 31 7) rfl rfl (any_of HT_.out (by kernel_rfl)) (fun _ _ _ h => h) (Or.inr ⟨by rfl, rfl⟩) ?_ ?_
                        rotate_left
                        ·simp only [Act.put, List.setIfInBounds_toArray, List.set_cons_zero, List.set_cons_succ, i64_w, i32_w]
                         rfl
                        refine pure_ (i := 3) (N := some 55) (v := undef) (a' := ?_) (bL 31 15) rfl rfl (any_of HT_.out (by kernel_rfl)) (fun _ _ _ h => h) (Or.inr ⟨by rfl, rfl⟩) ?_ ?_
                        rotate_left
                        ·simp only [Act.put, List.setIfInBounds_toArray, List.set_cons_zero, List.set_cons_succ, i64_w, i32_w]
                         rfl
                        refine pure_ (i := 4) (N := some 56) (v := undef) (a' := ?_) (bL 31 31) rfl rfl (any_of HT_.out (by kernel_rfl)) (fun _ _ _ h => h) (Or.inr ⟨by rfl, rfl⟩) ?_ ?_
                        rotate_left
                        ·simp only [Act.put, List.setIfInBounds_toArray, List.set_cons_zero, List.set_cons_succ, i64_w, i32_w]
                         rfl
                        refine pure_ (i := 5) (N := some 57) (v := undef) (a' := ?_) (bL 31 63) rfl rfl (any_of HT_.out (by kernel_rfl)) (fun _ _ _ h => h) (Or.inr ⟨by rfl, rfl⟩) ?_ ?_
                        rotate_left
                        ·simp only [Act.put, List.setIfInBounds_toArray, List.set_cons_zero, List.set_cons_succ, i64_w, i32_w]
                         rfl
                        refine pure_ (i := 6) (N := some 58) (v := undef) (a' := ?_) (bL 31 127) rfl rfl (any_of HT_.out (by kernel_rfl)) (fun _ _ _ h => h) (Or.inr ⟨by rfl, rfl⟩) ?_ ?_
                        rotate_left
                        ·simp only [Act.put, List.setIfInBounds_toArray, List.set_cons_zero, List.set_cons_succ, i64_w, i32_w]
                         rfl
                        refine pure_ (i := 7) (N := some 59) (v := undef) (a' := ?_) (bL 31 255) rfl rfl (any_of HT_.out (by kernel_rfl)) (fun _ _ _ h => h) (Or.inr ⟨by rfl, rfl⟩) ?_ ?_
                        rotate_left
                        ·simp only [Act.put, List.setIfInBounds_toArray, List.set_cons_zero, List.set_cons_succ, i64_w, i32_w]
                         rfl
                        refine pure_ (i := 8) (N := some 60) (v := undef) (a' := ?_) (bL 31 511) rfl rfl (any_of HT_.out (by kernel_rfl)) (fun _ _ _ h => h) (Or.inr ⟨by rfl, rfl⟩) ?_ ?_
                        rotate_left
                        ·simp only [Act.put, List.setIfInBounds_toArray, List.set_cons_zero, List.set_cons_succ, i64_w, i32_w]
                         rfl
                        refine pure_ (i := 9) (N := some 61) (v := ?_) (a' := ?_) (bL 31 1023) rfl rfl (any_of HT_.out (by kernel_rfl)) (fun _ _ _ h => h) (Or.inl ⟨by rfl, ?_⟩) ?_ ?_
                        rotate_left
                        ·intro w'
                         go_simp
                         with_reducible rfl
                        rotate_left
                        ·simp only [Act.put, List.setIfInBounds_toArray, List.set_cons_zero, List.set_cons_succ, i64_w, i32_w]
                         rfl
                        refine pure_ (i := 10) (N := some 62) (v := ?_) (a' := ?_) (bL 31 2047) rfl rfl (any_of HT_.out (by kernel_rfl)) (fun _ _ _ h => h) (Or.inl ⟨by rfl, ?_⟩) ?_ ?_
                        rotate_left
                        ·intro w'
                         go_simp
                         with_reducible rfl
                        rotate_left
                        ·simp only [Act.put, List.setIfInBounds_toArray, List.set_cons_zero, List.set_cons_succ, i64_w, i32_w]
                         rfl
                        refine pure_ (i := 11) (N := some 63) (v := ?_) (a' := ?_) (bL 31 4095) rfl rfl (any_of HT_.out (by kernel_rfl)) (fun _ _ _ h => h) (Or.inl ⟨by rfl, ?_⟩) ?_ ?_
                        rotate_left
                        ·intro w'
                         go_simp
                         with_reducible rfl
                        rotate_left
                        ·simp only [Act.put, List.setIfInBounds_toArray, List.set_cons_zero, List.set_cons_succ, i64_w, i32_w]
                         rfl
                        refine pure_ (i := 12) (N := some 64) (v := ?_) (a' := ?_) (bL 31 8191) rfl rfl (any_of HT_.out (by kernel_rfl)) (fun _ _ _ h => h) (Or.inl ⟨by rfl, ?_⟩) ?_ ?_
                        rotate_left
                        ·intro w'
                         go_simp
                         with_reducible rfl
                        rotate_left
                        ·simp only [Act.put, List.setIfInBounds_toArray, List.set_cons_zero, List.set_cons_succ, i64_w, i32_w]
                         rfl
                        refine pure_ (i := 13) (N := some 65) (v := ?_) (a' := ?_) (bL 31 16383) rfl rfl (any_of HT_.out (by kernel_rfl)) (fun _ _ _ h => h) (Or.inl ⟨by rfl, ?_⟩) ?_ ?_
                        rotate_left
                        ·intro w'
                         go_simp
                         with_reducible rfl
                        rotate_left
                        ·simp only [Act.put, List.setIfInBounds_toArray, List.set_cons_zero, List.set_cons_succ, i64_w, i32_w]
                         rfl
                        refine take_ (i := 14) (N := some 66) (v := ?_) (a' := ?_) (bL 31 32767) rfl rfl (take_ofW HT_.out HW_.out (by kernel_rfl)) (fun _ _ _ h => h) (Or.inl ⟨by rfl, ?_⟩) hHeld ?_ ?_
                        rotate_left
                        ·rintro w' ⟨s0, s1, s2, s3, s4, s5⟩
                         go_simp
                         with_reducible rfl
                        rotate_left
                        ·simp only [Act.put, List.setIfInBounds_toArray, List.set_cons_zero, List.set_cons_succ, i64_w, i32_w]
                         rfl
                        refine pure_ (i := 15) (N := some 67) (v := ?_) (a' := ?_) (bL 31 65535) rfl rfl (any_of HT_.out (by kernel_rfl)) (fun _ _ _ h => h) (Or.inl ⟨by rfl, ?_⟩) ?_ ?_
                        rotate_left
                        ·intro w'
                         go_simp
                         with_reducible rfl
                        rotate_left
                        ·simp only [Act.put, List.setIfInBounds_toArray, List.set_cons_zero, List.set_cons_succ, i64_w, i32_w]
                         rfl
                        refine pure_ (i := 16) (N := some 68) (v := ?_) (a' := ?_) (bL 31 131071) rfl rfl (any_of HT_.out (by kernel_rfl)) (fun _ _ _ h => h) (Or.inl ⟨by rfl, ?_⟩) ?_ ?_
                        rotate_left
                        ·intro w'
                         go_simp
                         with_reducible rfl
                        rotate_left
                        ·simp only [Act.put, List.setIfInBounds_toArray, List.set_cons_zero, List.set_cons_succ, i64_w, i32_w]
                         rfl
                        refine take_ (i := 17) (N := some 69) (v := ?_) (a' := ?_) (bL 31 262143) rfl rfl (take_ofW HT_.out HW_.out (by kernel_rfl)) (fun _ _ _ h => h) (Or.inl ⟨by rfl, ?_⟩) hHeld ?_ ?_
                        rotate_left
                        ·rintro w' ⟨s0, s1, s2, s3, s4, s5⟩
                         go_simp
                         with_reducible rfl
                        rotate_left
                        ·simp only [Act.put, List.setIfInBounds_toArray, List.set_cons_zero, List.set_cons_succ, i64_w, i32_w]
                         rfl
                        refine pure_ (i := 19) (N := some 71) (v := ?_) (a' := ?_) (bL 31 786431) rfl rfl (any_of HT_.out (by kernel_rfl)) (fun _ _ _ h => h) (Or.inl ⟨by rfl, ?_⟩) ?_ ?_
                        rotate_left
                        ·intro w'
                         go_simp
                         with_reducible rfl
                        rotate_left
                        ·simp only [Act.put, List.setIfInBounds_toArray, List.set_cons_zero, List.set_cons_succ, i64_w, i32_w]
                         rfl
                        refine pure_ (i := 20) (N := some 72) (v := ?_) (a' := ?_) (bL 31 1835007) rfl rfl (any_of HT_.out (by kernel_rfl)) (fun _ _ _ h => h) (Or.inl ⟨by rfl, ?_⟩) ?_ ?_
                        rotate_left
                        ·intro w'
                         go_simp
                         with_reducible rfl
                        rotate_left
                        ·simp only [Act.put, List.setIfInBounds_toArray, List.set_cons_zero, List.set_cons_succ, i64_w, i32_w]
                         rfl
                        refine pure_ (i := 21) (N := some 73) (v := ?_) (a' := ?_) (bL 31 3932159) rfl rfl (any_of HT_.out (by kernel_rfl)) (fun _ _ _ h => h) (Or.inl ⟨by rfl, ?_⟩) ?_ ?_
                        rotate_left
                        ·intro w'
                         go_simp
                         with_reducible rfl
                        rotate_left
                        ·simp only [Act.put, List.setIfInBounds_toArray, List.set_cons_zero, List.set_cons_succ, i64_w, i32_w]
                         rfl
                        refine pure_ (i := 22) (N := some 74) (v := ?_) (a' := ?_) (bL 31 8126463) rfl rfl (any_of HT_.out (by kernel_rfl)) (fun _ _ _ h => h) (Or.inl ⟨by rfl, ?_⟩) ?_ ?_
                        rotate_left
                        ·intro w'
                         go_simp
                         with_reducible rfl
                        rotate_left
                        ·simp only [Act.put, List.setIfInBounds_toArray, List.set_cons_zero, List.set_cons_succ, i64_w, i32_w]
                         rfl
                        refine take_ (i := 23) (N := some 75) (v := ?_) (a' := ?_) (bL 31 16515071) rfl rfl (take_ofW HT_.out HW_.out (by kernel_rfl)) (fun _ _ _ h => h) (Or.inl ⟨by rfl, ?_⟩) hHeld ?_ ?_
                        rotate_left
                        ·rintro w' ⟨s0, s1, s2, s3, s4, s5⟩
                         go_simp
                         with_reducible rfl
                        rotate_left
                        ·simp only [Act.put, List.setIfInBounds_toArray, List.set_cons_zero, List.set_cons_succ, i64_w, i32_w]
                         rfl
                        refine pure_ (i := 24) (N := some 76) (v := ?_) (a' := ?_) (bL 31 33292287) rfl rfl (any_of HT_.out (by kernel_rfl)) (fun _ _ _ h => h) (Or.inl ⟨by rfl, ?_⟩) ?_ ?_
                        rotate_left
                        ·intro w'
                         go_simp
                         with_reducible rfl
                        rotate_left
                        ·simp only [Act.put, List.setIfInBounds_toArray, List.set_cons_zero, List.set_cons_succ, i64_w, i32_w]
                         rfl
                        refine pure_ (i := 25) (N := some 77) (v := ?_) (a' := ?_) (bL 31 66846719) rfl rfl (any_of HT_.out (by kernel_rfl)) (fun _ _ _ h => h) (Or.inl ⟨by rfl, ?_⟩) ?_ ?_
                        rotate_left
                        ·intro w'
                         go_simp
                         with_reducible rfl
                        rotate_left
                        ·simp only [Act.put, List.setIfInBounds_toArray, List.set_cons_zero, List.set_cons_succ, i64_w, i32_w]
                         rfl
                        refine take_ (i := 26) (N := some 78) (v := ?_) (a' := ?_) (bL 31 133955583) rfl rfl (take_ofW HT_.out HW_.out (by kernel_rfl)) (fun _ _ _ h => h) (Or.inl ⟨by rfl, ?_⟩) hHeld ?_ ?_
                        rotate_left
                        ·rintro w' ⟨s0, s1, s2, s3, s4, s5⟩
                         go_simp
                         with_reducible rfl
                        rotate_left
                        ·simp only [Act.put, List.setIfInBounds_toArray, List.set_cons_zero, List.set_cons_succ, i64_w, i32_w]
                         rfl
                        refine one_ (i := 18) (N := some 70) (bL 31 134217727) rfl rfl (one_of HT_.out (by kernel_rfl)) (by decide) (fun K hK => ?_)
                        refine Kd.R_append_rows_step kI (w0 := w) w.heap.size (by rfl) (.tmp 62) (.tmp 69) 41 2 (.int .i64 0) 8 rfl Try.underlying41 info2 rfl (by decide) (by omega) u7 l7 lf _ _ _ (fun k_ => o73 k_ ∨ w12.heap.size ≤ k_) (fun _ => False) rfl rfl ?aO ?aR (fun _ _ h_ => h_) (fun _ h_ => h_.elim) ?aF ?aB ?aS ?aL ?_
                        (case aR => exact nf_.out)
                        (case aO => exact Kd.R_mono HN.out.r7 (fun _ h_ => .inl h_))
                        (case aF => exact (fun _ h_ => .inr h_))
                        (case aB => exact HN.out.net.bel)
                        (case aS => exact HN.out.net.size)
                        (case aL => have h1_ := LB.out; have h2_ := GFA.out.1; have h3_ := GLA.out.1; have h4_ := CB.out; omega)
                        intro v70 w13 ho hb hg hat
                        have nn_ := Aside0.mk (NetL.app7 HN.out hg ho)
                        clear hat
                        have ht_1 : w13.cell? ⟨gx, 1, none⟩ = some (.slice (some ⟨gn, 0, none⟩) (NL l0 x16.toNat).length cn) := (blk_cell nn_.out.net.box 1).trans rfl
                        have ht_2 : w13.cell? ⟨gx, 2, none⟩ = some (.slice (some ⟨gf, 0, none⟩) fs.length cf) := (blk_cell nn_.out.net.box 2).trans rfl
                        have ht_3 : w13.cell? ⟨gx, 3, none⟩ = some (.slice (some ⟨gl, 0, none⟩) ls.length cl) := (blk_cell nn_.out.net.box 3).trans rfl
                        have ht_4 := cell_grown hg hs_4 (Kd.R_ne HN.out.r7 nGN_.out (by decide))
                        have ht_5 := cell_grown hg hs_5 (Kd.R_ne HN.out.r7 nGF_.out (by decide))
                        have ht_6 := cell_grown hg hs_6 (Kd.R_ne HN.out.r7 nGL2.out (by decide))
                        have mGN := Aside0.mk (blk_grown nGN_.out hg (Kd.R_ne HN.out.r7 nGN_.out (by decide)))
                        have mGF := Aside0.mk (blk_grown nGF_.out hg (Kd.R_ne HN.out.r7 nGF_.out (by decide)))
                        have mGL := Aside0.mk (blk_grown nGL2.out hg (Kd.R_ne HN.out.r7 nGL2.out (by decide)))
                        refine hK.out _ _ ⟨ht_1, ht_2, ht_3, ht_4, ht_5, ht_6⟩ (fun hHeld2 => ?_)
                        clear hK K hHeld ho hb hg
                        refine norm_ (a' := ?_) ?_ ?_
                        rotate_left
                        ·show Act.put _ (some 70) _ = _
                         simp only [Act.put, List.setIfInBounds_toArray, List.set_cons_zero, List.set_cons_succ, i64_w, i32_w]
                         rfl
                        obtain ⟨adl, Al2, cl3, e5, hxl, _, hCl⟩ := at_rows (Kd.R_reads' nn_.out.net.rL).2.2 kd (of_eq_true p3) KLL.out
                        cases e5
                        rw [add_plain, ← HLE.out] at hxl
                        rw [← HLE.out] at hCl
                        have ea_ := Option.some.inj (ht_6.symm.trans hxl)
                        injection ea_ with ea_ _ ec_
                        subst ea_
                        subst ec_
                        clear HN
                        have HN := nn_
                        clear nn_ hxl
                        refine one_ (i := 27) (N := some 79) (bL 31 268435455) rfl rfl (one_of HT_.out (by kernel_rfl)) (by decide) (fun K hK => ?_)
                        refine Kd.R_append_rows_step kI (w0 := w) w.heap.size (by rfl) (.tmp 71) (.tmp 78) 41 2 (.int .i64 0) 8 rfl Try.underlying41 info2 rfl (by decide) (by omega) u8 l8 ll _ _ _ (fun k_ => (fun k_ => o83 k_ ∧ k_ < w12.heap.size) k_ ∨ w13.heap.size ≤ k_) (fun _ => False) rfl rfl ?aO ?aR (fun _ _ h_ => h_) (fun _ h_ => h_.elim) ?aF ?aB ?aS ?aL ?_
                        (case aR => exact hCl)
                        (case aO => exact Kd.R_mono HN.out.r8 (fun _ h_ => .inl h_))
                        (case aF => exact (fun _ h_ => .inr h_))
                        (case aB => exact HN.out.net.bel)
                        (case aS => exact HN.out.net.size)
                        (case aL => have h1_ := LB.out; have h2_ := GFA.out.1; have h3_ := GLA.out.1; have h4_ := CB.out; omega)
                        intro v79 w14 ho hb hg hat
                        have nn_ := Aside0.mk (NetL.swap (NetL.app7 (NetL.swap HN.out) hg ho))
                        clear hat
                        have hu_1 : w14.cell? ⟨gx, 1, none⟩ = some (.slice (some ⟨gn, 0, none⟩) (NL l0 x16.toNat).length cn) := (blk_cell nn_.out.net.box 1).trans rfl
                        have hu_2 : w14.cell? ⟨gx, 2, none⟩ = some (.slice (some ⟨gf, 0, none⟩) fs.length cf) := (blk_cell nn_.out.net.box 2).trans rfl
                        have hu_3 : w14.cell? ⟨gx, 3, none⟩ = some (.slice (some ⟨gl, 0, none⟩) ls.length cl) := (blk_cell nn_.out.net.box 3).trans rfl
                        have hu_4 := cell_grown hg ht_4 (Kd.R_ne HN.out.r8 mGN.out (by decide))
                        have hu_5 := cell_grown hg ht_5 (Kd.R_ne HN.out.r8 mGF.out (by decide))
                        have hu_6 := cell_grown hg ht_6 (Kd.R_ne HN.out.r8 mGL.out (by decide))
                        refine hK.out _ _ ⟨hu_1, hu_2, hu_3, hu_4, hu_5, hu_6⟩ (fun hHeld3 => ?_)
                        clear hK K ho hb hg hCl HN hu_1 hu_2 hu_3 hu_4 hu_5 hu_6
                        have HN := nn_
                        clear nn_
                        refine norm_ (a' := ?_) ?_ ?_
                        rotate_left
                        ·show Act.put _ (some 79) _ = _
                         simp only [Act.put, List.setIfInBounds_toArray, List.set_cons_zero, List.set_cons_succ, i64_w, i32_w]
                         rfl
                        refine pure_ (i := 28) (N := some 6) (v := ?_) (a' := ?_) (bL 31 536870911) rfl rfl (any_of HT_.out (by kernel_rfl)) (fun _ _ _ h => h) (Or.inl ⟨by rfl, ?_⟩) ?_ ?_
                        rotate_left
                        ·intro w'
                         go_simp
                         with_reducible rfl
                        rotate_left
                        ·simp only [Act.put, List.setIfInBounds_toArray, List.set_cons_zero, List.set_cons_succ, i64_w, i32_w]
                         rfl
                        refine pure_ (i := 29) (N := some 7) (v := ?_) (a' := ?_) (bL 31 1073741823) rfl rfl (any_of HT_.out (by kernel_rfl)) (fun _ _ _ h => h) (Or.inl ⟨by rfl, ?_⟩) ?_ ?_
                        rotate_left
                        ·intro w'
                         go_simp
                         with_reducible rfl
                        rotate_left
                        ·simp only [Act.put, List.setIfInBounds_toArray, List.set_cons_zero, List.set_cons_succ, i64_w, i32_w]
                         rfl
                        refine pure_ (i := 30) (N := some 8) (v := ?_) (a' := ?_) (bL 31 2147483647) rfl rfl (any_of HT_.out (by kernel_rfl)) (fun _ _ _ h => h) (Or.inl ⟨by rfl, ?_⟩) ?_ ?_
                        rotate_left
                        ·intro w'
                         go_simp
                         with_reducible rfl
                        rotate_left
                        ·simp only [Act.put, List.setIfInBounds_toArray, List.set_cons_zero, List.set_cons_succ, i64_w, i32_w]
                         rfl
                        refine done_ (done_of HT_.out (by kernel_rfl)) ?_
                        try clear ht_1 ht_2 ht_3 ht_4 ht_5 ht_6 hs_1 hs_2 hs_3 hs_4 hs_5 hs_6
                        go_wp2
                        go_roundg k2
                        case measure => omega
                        case rel => exact ⟨(true || bk), wrap64 (x45 + 1), l7 ++ lf, l8 ++ ll, _, _, _, _, (by first | rfl | (simp; done) | (simp [*]; done)), (by first | rfl | (simp; done) | (simp [*]; done)), ⟨by have := HY.out; have := HJ.out; have := N2.out; have := OKN.out; rw [step45 HY.out.1 HJ.out.2 (Kd.C_max HR2.out)]; omega⟩, ⟨(by (with_reducible repeat (first | apply NetL.alloc | apply NetL.drewN | apply NetL.drew)); exact HN.out)⟩, ⟨by rw [step45 HY.out.1 HJ.out.2 (Kd.C_max HR2.out)]; have h_ := nvk_step HNV.out HJ.out.1 HJ.out.2; rw [← HKD.out, if_pos C3.out, ← HBK.out] at h_; exact h_⟩, ⟨by rw [step45 HY.out.1 HJ.out.2 (Kd.C_max HR2.out)]; exact Loc.step HLC.out HJ.out.1 HJ.out.2 (by rw [← HKD.out]; exact GFA.out) (by rw [← HKD.out]; exact GLA.out)⟩⟩
                    case false =>
                      as_aux_lemma =>
                        refine start_ (n := 31) (S := fun w' => w'.cell? ⟨gx, 1, none⟩ = some (.slice (some ⟨gn, 0, none⟩) (NL l0 x16.toNat).length cn) ∧ w'.cell? ⟨gx, 2, none⟩ = some (.slice (some ⟨gf, 0, none⟩) fs.length cf) ∧ w'.cell? ⟨gx, 3, none⟩ = some (.slice (some ⟨gl, 0, none⟩) ls.length cl) ∧ w'.cell? ⟨gn, kd.toNat, none⟩ = some (.bool bk) ∧ w'.cell? ⟨gf, kd.toNat, none⟩ = some (.slice Af lf.length cf2) ∧ w'.cell? ⟨gl, kd.toNat, none⟩ = some (.slice Al ll.length cl2)) (ds := []) (bL 31 0) (by kernel_rfl) rfl (by kernel_rfl) ⟨hs_1, hs_2, hs_3, hs_4, hs_5, hs_6⟩ (fun hHeld => ?_)
                        refine with_tabW impl_netOf.tab13 impl_netOf.bits13 (fun HT_ HW_ => ?_)
                        generalize wr.drew = w12 at HN hs_1 hs_2 hs_3 hs_4 hs_5 hs_6 nf_ nl_ nGN_ nGF_ nGL2 hHeld ⊢
                        refine pure_ (i := 0) (N := some 52) (v := ?_) (a' := ?_) (bL 31 1) rfl rfl (any_of HT_.out (by kernel_rfl)) (fun _ _ _ h => h) (Or.inl ⟨by rfl, ?_⟩) ?_ ?_
                        rotate_left
                        ·intro w'
                         go_simp
                         with_reducible rfl
                        rotate_left
                        ·simp only [Act.put, List.setIfInBounds_toArray, List.set_cons_zero, List.set_cons_succ, i64_w, i32_w]
                         rfl
                        refine pure_ (i := 1) (N := some 53) (v := ?_) (a' := ?_) (bL 31 3) rfl rfl (any_of HT_.out (by kernel_rfl)) (fun _ _ _ h => h) (Or.inl ⟨by rfl, ?_⟩) ?_ ?_
                        rotate_left
                        ·intro w'
                         go_simp
                         with_reducible rfl
                        rotate_left
                        ·simp only [Act.put, List.setIfInBounds_toArray, List.set_cons_zero, List.set_cons_succ, i64_w, i32_w]
                         rfl
                        refine pure_ (i := 2) (N := some 54) (v := ?_) (a' := ?_) (bL 31 7) rfl rfl (any_of HT_.out (by kernel_rfl)) (fun _ _ _ h => h) (Or.inl ⟨by rfl, ?_⟩) ?_ ?_
                        rotate_left
                        ·intro w'
                         go_simp
                         with_reducible rfl
                        rotate_left
                        ·simp only [Act.put, List.setIfInBounds_toArray, List.set_cons_zero, List.set_cons_succ, i64_w, i32_w]
                         rfl
                        refine pure_ (i := 3) (N := some 55) (v := ?_) (a' := ?_) (bL 31 15) rfl rfl (any_of HT_.out (by kernel_rfl)) (fun _ _ _ h => h) (Or.inl ⟨by rfl, ?_⟩) ?_ ?_
                        rotate_left
                        ·intro w'
                         go_simp
                         with_reducible rfl
                        rotate_left
                        ·simp only [Act.put, List.setIfInBounds_toArray, List.set_cons_zero, List.set_cons_succ, i64_w, i32_w]
                         rfl
                        refine pure_ (i := 4) (N := some 56) (v := ?_) (a' := ?_) (bL 31 31) rfl rfl (any_of HT_.out (by kernel_rfl)) (fun _ _ _ h => h) (Or.inl ⟨by rfl, ?_⟩) ?_ ?_
                        rotate_left
                        ·intro w'
                         go_simp
                         with_reducible rfl
                        rotate_left
                        ·simp only [Act.put, List.setIfInBounds_toArray, List.set_cons_zero, List.set_cons_succ, i64_w, i32_w]
                         rfl
                        refine take_ (i := 5) (N := some 57) (v := ?_) (a' := ?_) (bL 31 63) rfl rfl (take_ofW HT_.out HW_.out (by kernel_rfl)) (fun _ _ _ h => h) (Or.inl ⟨by rfl, ?_⟩) hHeld ?_ ?_
                        rotate_left
                        ·rintro w' ⟨s0, s1, s2, s3, s4, s5⟩
                         go_simp
                         with_reducible rfl
                        rotate_left
                        ·simp only [Act.put, List.setIfInBounds_toArray, List.set_cons_zero, List.set_cons_succ, i64_w, i32_w]
                         rfl
                        refine pure_ (i := 6) (N := some 58) (v := ?_) (a' := ?_) (bL 31 127) rfl rfl (any_of HT_.out (by kernel_rfl)) (fun _ _ _ h => h) (Or.inl ⟨by rfl, ?_⟩) ?_ ?_
                        rotate_left
                        ·intro w'
                         go_simp
                         with_reducible rfl
                        rotate_left
                        ·simp only [Act.put, List.setIfInBounds_toArray, List.set_cons_zero, List.set_cons_succ, i64_w, i32_w]
                         rfl
                        refine pure_ (i := 7) (N := some 59) (v := ?_) (a' := ?_) (bL 31 255) rfl rfl (any_of HT_.out (by kernel_rfl)) (fun _ _ _ h => h) (Or.inl ⟨by rfl, ?_⟩) ?_ ?_
                        rotate_left
                        ·intro w'
                         go_simp
                         with_reducible rfl
                        rotate_left
                        ·simp only [Act.put, List.setIfInBounds_toArray, List.set_cons_zero, List.set_cons_succ, i64_w, i32_w]
                         rfl
                        refine take_ (i := 8) (N := some 60) (v := ?_) (a' := ?_) (bL 31 511) rfl rfl (take_ofW HT_.out HW_.out (by kernel_rfl)) (fun _ _ _ h => h) (Or.inl ⟨by rfl, ?_⟩) hHeld ?_ ?_
                        rotate_left
                        ·rintro w' ⟨s0, s1, s2, s3, s4, s5⟩
                         go_simp
                         with_reducible rfl
                        rotate_left
                        ·simp only [Act.put, List.setIfInBounds_toArray, List.set_cons_zero, List.set_cons_succ, i64_w, i32_w]
                         rfl
                        refine pure_ (i := 9) (N := some 61) (v := ?_) (a' := ?_) (bL 31 1023) rfl rfl (any_of HT_.out (by kernel_rfl)) (fun _ _ _ h => h) (Or.inl ⟨by rfl, ?_⟩) ?_ ?_
                        rotate_left
                        ·intro w'
                         go_simp
                         with_reducible rfl
                        rotate_left
                        ·simp only [Act.put, List.setIfInBounds_toArray, List.set_cons_zero, List.set_cons_succ, i64_w, i32_w]
                         rfl
                        refine pure_ (i := 10) (N := some 62) (v := ?_) (a' := ?_) (bL 31 2047) rfl rfl (any_of HT_.out (by kernel_rfl)) (fun _ _ _ h => h) (Or.inl ⟨by rfl, ?_⟩) ?_ ?_
                        rotate_left
                        ·intro w'
                         go_simp
                         with_reducible rfl
                        rotate_left
                        ·simp only [Act.put, List.setIfInBounds_toArray, List.set_cons_zero, List.set_cons_succ, i64_w, i32_w]
                         rfl
                        refine pure_ (i := 11) (N := some 63) (v := ?_) (a' := ?_) (bL 31 4095) rfl rfl (any_of HT_.out (by kernel_rfl)) (fun _ _ _ h => h) (Or.inl ⟨by rfl, ?_⟩) ?_ ?_
                        rotate_left
                        ·intro w'
                         go_simp
                         with_reducible rfl
                        rotate_left
                        ·simp only [Act.put, List.setIfInBounds_toArray, List.set_cons_zero, List.set_cons_succ, i64_w, i32_w]
                         rfl
                        refine pure_ (i := 12) (N := some 64) (v := ?_) (a' := ?_) (bL 31 8191) rfl rfl (any_of HT_.out (by kernel_rfl)) (fun _ _ _ h => h) (Or.inl ⟨by rfl, ?_⟩) ?_ ?_
                        rotate_left
                        ·intro w'
                         go_simp
                         with_reducible rfl
                        rotate_left
                        ·simp only [Act.put, List.setIfInBounds_toArray, List.set_cons_zero, List.set_cons_succ, i64_w, i32_w]
                         rfl
                        refine pure_ (i := 13) (N := some 65) (v := ?_) (a' := ?_) (bL 31 16383) rfl rfl (any_of HT_.out (by kernel_rfl)) (fun _ _ _ h => h) (Or.inl ⟨by rfl, ?_⟩) ?_ ?_
                        rotate_left
                        ·intro w'
                         go_simp
                         with_reducible rfl
                        rotate_left
                        ·simp only [Act.put, List.setIfInBounds_toArray, List.set_cons_zero, List.set_cons_succ, i64_w, i32_w]
                         rfl
                        refine take_ (i := 14) (N := some 66) (v := ?_) (a' := ?_) (bL 31 32767) rfl rfl (take_ofW HT_.out HW_.out (by kernel_rfl)) (fun _ _ _ h => h) (Or.inl ⟨by rfl, ?_⟩) hHeld ?_ ?_
                        rotate_left
                        ·rintro w' ⟨s0, s1, s2, s3, s4, s5⟩
                         go_simp
                         with_reducible rfl
                        rotate_left
                        ·simp only [Act.put, List.setIfInBounds_toArray, List.set_cons_zero, List.set_cons_succ, i64_w, i32_w]
                         rfl
                        refine pure_ (i := 15) (N := some 67) (v := ?_) (a' := ?_) (bL 31 65535) rfl rfl (any_of HT_.out (by kernel_rfl)) (fun _ _ _ h => h) (Or.inl ⟨by rfl, ?_⟩) ?_ ?_
                        rotate_left
                        ·intro w'
                         go_simp
                         with_reducible rfl
                        rotate_left
                        ·simp only [Act.put, List.setIfInBounds_toArray, List.set_cons_zero, List.set_cons_succ, i64_w, i32_w]
                         rfl
                        refine pure_ (i := 16) (N := some 68) (v := ?_) (a' := ?_) (bL 31 131071) rfl rfl (any_of HT_.out (by kernel_rfl)) (fun _ _ _ h => h) (Or.inl ⟨by rfl, ?_⟩) ?_ ?_
                        rotate_left
                        ·intro w'
                         go_simp
                         with_reducible rfl
                        rotate_left
                        ·simp only [Act.put, List.setIfInBounds_toArray, List.set_cons_zero, List.set_cons_succ, i64_w, i32_w]
                         rfl
                        refine take_ (i := 17) (N := some 69) (v := ?_) (a' := ?_) (bL 31 262143) rfl rfl (take_ofW HT_.out HW_.out (by kernel_rfl)) (fun _ _ _ h => h) (Or.inl ⟨by rfl, ?_⟩) hHeld ?_ ?_
                        rotate_left
                        ·rintro w' ⟨s0, s1, s2, s3, s4, s5⟩
                         go_simp
                         with_reducible rfl
                        rotate_left
                        ·simp only [Act.put, List.setIfInBounds_toArray, List.set_cons_zero, List.set_cons_succ, i64_w, i32_w]
                         rfl
                        refine pure_ (i := 19) (N := some 71) (v := ?_) (a' := ?_) (bL 31 786431) rfl rfl (any_of HT_.out (by kernel_rfl)) (fun _ _ _ h => h) (Or.inl ⟨by rfl, ?_⟩) ?_ ?_
                        rotate_left
                        ·intro w'
                         go_simp
                         with_reducible rfl
                        rotate_left
                        ·simp only [Act.put, List.setIfInBounds_toArray, List.set_cons_zero, List.set_cons_succ, i64_w, i32_w]
                         rfl
                        refine pure_ (i := 20) (N := some 72) (v := ?_) (a' := ?_) (bL 31 1835007) rfl rfl (any_of HT_.out (by kernel_rfl)) (fun _ _ _ h => h) (Or.inl ⟨by rfl, ?_⟩) ?_ ?_
                        rotate_left
                        ·intro w'
                         go_simp
                         with_reducible rfl
                        rotate_left
                        ·simp only [Act.put, List.setIfInBounds_toArray, List.set_cons_zero, List.set_cons_succ, i64_w, i32_w]
                         rfl
                        refine pure_ (i := 21) (N := some 73) (v := ?_) (a' := ?_) (bL 31 3932159) rfl rfl (any_of HT_.out (by kernel_rfl)) (fun _ _ _ h => h) (Or.inl ⟨by rfl, ?_⟩) ?_ ?_
                        rotate_left
                        ·intro w'
                         go_simp
                         with_reducible rfl
                        rotate_left
                        ·simp only [Act.put, List.setIfInBounds_toArray, List.set_cons_zero, List.set_cons_succ, i64_w, i32_w]
                         rfl
                        refine pure_ (i := 22) (N := some 74) (v := ?_) (a' := ?_) (bL 31 8126463) rfl rfl (any_of HT_.out (by kernel_rfl)) (fun _ _ _ h => h) (Or.inl ⟨by rfl, ?_⟩) ?_ ?_
                        rotate_left
                        ·intro w'
                         go_simp
                         with_reducible rfl
                        rotate_left
                        ·simp only [Act.put, List.setIfInBounds_toArray, List.set_cons_zero, List.set_cons_succ, i64_w, i32_w]
                         rfl
                        refine take_ (i := 23) (N := some 75) (v := ?_) (a' := ?_) (bL 31 16515071) rfl rfl (take_ofW HT_.out HW_.out (by kernel_rfl)) (fun _ _ _ h => h) (Or.inl ⟨by rfl, ?_⟩) hHeld ?_ ?_
                        rotate_left
                        ·rintro w' ⟨s0, s1, s2, s3, s4, s5⟩
                         go_simp
                         with_reducible rfl
                        rotate_left
                        ·simp only [Act.put, List.setIfInBounds_toArray, List.set_cons_zero, List.set_cons_succ, i64_w, i32_w]
                         rfl
                        refine pure_ (i := 24) (N := some 76) (v := ?_) (a' := ?_) (bL 31 33292287) rfl rfl (any_of HT_.out (by kernel_rfl)) (fun _ _ _ h => h) (Or.inl ⟨by rfl, ?_⟩) ?_ ?_
                        rotate_left
                        ·intro w'
                         go_simp
                         with_reducible rfl
                        rotate_left
                        ·simp only [Act.put, List.setIfInBounds_toArray, List.set_cons_zero, List.set_cons_succ, i64_w, i32_w]
                         rfl
                        refine pure_ (i := 25) (N := some 77) (v := ?_) (a' := ?_) (bL 31 66846719) rfl rfl (any_of HT_.out (by kernel_rfl)) (fun _ _ _ h => h) (Or.inl ⟨by rfl, ?_⟩) ?_ ?_
                        rotate_left
                        ·intro w'
                         go_simp
                         with_reducible rfl
                        rotate_left
                        ·simp only [Act.put, List.setIfInBounds_toArray, List.set_cons_zero, List.set_cons_succ, i64_w, i32_w]
                         rfl
                        refine take_ (i := 26) (N := some 78) (v := ?_) (a' := ?_) (bL 31 133955583) rfl rfl (take_ofW HT_.out HW_.out (by kernel_rfl)) (fun _ _ _ h => h) (Or.inl ⟨by rfl, ?_⟩) hHeld ?_ ?_
                        rotate_left
                        ·rintro w' ⟨s0, s1, s2, s3, s4, s5⟩
                         go_simp
                         with_reducible rfl
                        rotate_left
                        ·simp only [Act.put, List.setIfInBounds_toArray, List.set_cons_zero, List.set_cons_succ, i64_w, i32_w]
                         rfl
                        refine one_ (i := 18) (N := some 70) (bL 31 134217727) rfl rfl (one_of HT_.out (by kernel_rfl)) (by decide) (fun K hK => ?_)
                        refine Kd.R_append_rows_step kI (w0 := w) w.heap.size (by rfl) (.tmp 62) (.tmp 69) 41 2 (.int .i64 0) 8 rfl Try.underlying41 info2 rfl (by decide) (by omega) u7 l7 lf _ _ _ (fun k_ => o73 k_ ∨ w12.heap.size ≤ k_) (fun _ => False) rfl rfl ?aO ?aR (fun _ _ h_ => h_) (fun _ h_ => h_.elim) ?aF ?aB ?aS ?aL ?_
                        (case aR => exact nf_.out)
                        (case aO => exact Kd.R_mono HN.out.r7 (fun _ h_ => .inl h_))
                        (case aF => exact (fun _ h_ => .inr h_))
                        (case aB => exact HN.out.net.bel)
                        (case aS => exact HN.out.net.size)
                        (case aL => have h1_ := LB.out; have h2_ := GFA.out.1; have h3_ := GLA.out.1; have h4_ := CB.out; omega)
                        intro v70 w13 ho hb hg hat
                        have nn_ := Aside0.mk (NetL.app7 HN.out hg ho)
                        clear hat
                        have ht_1 : w13.cell? ⟨gx, 1, none⟩ = some (.slice (some ⟨gn, 0, none⟩) (NL l0 x16.toNat).length cn) := (blk_cell nn_.out.net.box 1).trans rfl
                        have ht_2 : w13.cell? ⟨gx, 2, none⟩ = some (.slice (some ⟨gf, 0, none⟩) fs.length cf) := (blk_cell nn_.out.net.box 2).trans rfl
                        have ht_3 : w13.cell? ⟨gx, 3, none⟩ = some (.slice (some ⟨gl, 0, none⟩) ls.length cl) := (blk_cell nn_.out.net.box 3).trans rfl
                        have ht_4 := cell_grown hg hs_4 (Kd.R_ne HN.out.r7 nGN_.out (by decide))
                        have ht_5 := cell_grown hg hs_5 (Kd.R_ne HN.out.r7 nGF_.out (by decide))
                        have ht_6 := cell_grown hg hs_6 (Kd.R_ne HN.out.r7 nGL2.out (by decide))
                        have mGN := Aside0.mk (blk_grown nGN_.out hg (Kd.R_ne HN.out.r7 nGN_.out (by decide)))
                        have mGF := Aside0.mk (blk_grown nGF_.out hg (Kd.R_ne HN.out.r7 nGF_.out (by decide)))
                        have mGL := Aside0.mk (blk_grown nGL2.out hg (Kd.R_ne HN.out.r7 nGL2.out (by decide)))
                        refine hK.out _ _ ⟨ht_1, ht_2, ht_3, ht_4, ht_5, ht_6⟩ (fun hHeld2 => ?_)
                        clear hK K hHeld ho hb hg
                        refine norm_ (a' := ?_) ?_ ?_
                        rotate_left
                        ·show Act.put _ (some 70) _ = _
                         simp only [Act.put, List.setIfInBounds_toArray, List.set_cons_zero, List.set_cons_succ, i64_w, i32_w]
                         rfl
                        obtain ⟨adl, Al2, cl3, e5, hxl, _, hCl⟩ := at_rows (Kd.R_reads' nn_.out.net.rL).2.2 kd (of_eq_true p3) KLL.out
                        cases e5
                        rw [add_plain, ← HLE.out] at hxl
                        rw [← HLE.out] at hCl
                        have ea_ := Option.some.inj (ht_6.symm.trans hxl)
                        injection ea_ with ea_ _ ec_
                        subst ea_
                        subst ec_
                        clear HN
                        have HN := nn_
                        clear nn_ hxl
                        refine one_ (i := 27) (N := some 79) (bL 31 268435455) rfl rfl (one_of HT_.out (by kernel_rfl)) (by decide) (fun K hK => ?_)
                        refine Kd.R_append_rows_step kI (w0 := w) w.heap.size (by rfl) (.tmp 71) (.tmp 78) 41 2 (.int .i64 0) 8 rfl Try.underlying41 info2 rfl (by decide) (by omega) u8 l8 ll _ _ _ (fun k_ => (fun k_ => o83 k_ ∧ k_ < w12.heap.size) k_ ∨ w13.heap.size ≤ k_) (fun _ => False) rfl rfl ?aO ?aR (fun _ _ h_ => h_) (fun _ h_ => h_.elim) ?aF ?aB ?aS ?aL ?_
                        (case aR => exact hCl)
                        (case aO => exact Kd.R_mono HN.out.r8 (fun _ h_ => .inl h_))
                        (case aF => exact (fun _ h_ => .inr h_))
                        (case aB => exact HN.out.net.bel)
                        (case aS => exact HN.out.net.size)
                        (case aL => have h1_ := LB.out; have h2_ := GFA.out.1; have h3_ := GLA.out.1; have h4_ := CB.out; omega)
                        intro v79 w14 ho hb hg hat
                        have nn_ := Aside0.mk (NetL.swap (NetL.app7 (NetL.swap HN.out) hg ho))
                        clear hat
                        have hu_1 : w14.cell? ⟨gx, 1, none⟩ = some (.slice (some ⟨gn, 0, none⟩) (NL l0 x16.toNat).length cn) := (blk_cell nn_.out.net.box 1).trans rfl
                        have hu_2 : w14.cell? ⟨gx, 2, none⟩ = some (.slice (some ⟨gf, 0, none⟩) fs.length cf) := (blk_cell nn_.out.net.box 2).trans rfl
                        have hu_3 : w14.cell? ⟨gx, 3, none⟩ = some (.slice (some ⟨gl, 0, none⟩) ls.length cl) := (blk_cell nn_.out.net.box 3).trans rfl
                        have hu_4 := cell_grown hg ht_4 (Kd.R_ne HN.out.r8 mGN.out (by decide))
                        have hu_5 := cell_grown hg ht_5 (Kd.R_ne HN.out.r8 mGF.out (by decide))
                        have hu_6 := cell_grown hg ht_6 (Kd.R_ne HN.out.r8 mGL.out (by decide))
                        refine hK.out _ _ ⟨hu_1, hu_2, hu_3, hu_4, hu_5, hu_6⟩ (fun hHeld3 => ?_)
                        clear hK K ho hb hg hCl HN hu_1 hu_2 hu_3 hu_4 hu_5 hu_6
                        have HN := nn_
                        clear nn_
                        refine norm_ (a' := ?_) ?_ ?_
                        rotate_left
                        ·show Act.put _ (some 79) _ = _
                         simp only [Act.put, List.setIfInBounds_toArray, List.set_cons_zero, List.set_cons_succ, i64_w, i32_w]
                         rfl
                        refine pure_ (i := 28) (N := some 6) (v := ?_) (a' := ?_) (bL 31 536870911) rfl rfl (any_of HT_.out (by kernel_rfl)) (fun _ _ _ h => h) (Or.inl ⟨by rfl, ?_⟩) ?_ ?_
                        rotate_left
                        ·intro w'
                         go_simp
                         with_reducible rfl
                        rotate_left
                        ·simp only [Act.put, List.setIfInBounds_toArray, List.set_cons_zero, List.set_cons_succ, i64_w, i32_w]
                         rfl
                        refine pure_ (i := 29) (N := some 7) (v := ?_) (a' := ?_) (bL 31 1073741823) rfl rfl (any_of HT_.out (by kernel_rfl)) (fun _ _ _ h => h) (Or.inl ⟨by rfl, ?_⟩) ?_ ?_
                        rotate_left
                        ·intro w'
                         go_simp
                         with_reducible rfl
                        rotate_left
                        ·simp only [Act.put, List.setIfInBounds_toArray, List.set_cons_zero, List.set_cons_succ, i64_w, i32_w]
                         rfl
                        refine pure_ (i := 30) (N := some 8) (v := ?_) (a' := ?_) (bL 31 2147483647) rfl rfl (any_of HT_.out (by kernel_rfl)) (fun _ _ _ h => h) (Or.inl ⟨by rfl, ?_⟩) ?_ ?_
                        rotate_left
                        ·intro w'
                         go_simp
                         with_reducible rfl
                        rotate_left
                        ·simp only [Act.put, List.setIfInBounds_toArray, List.set_cons_zero, List.set_cons_succ, i64_w, i32_w]
                         rfl
                        refine done_ (done_of HT_.out (by kernel_rfl)) ?_
                        try clear ht_1 ht_2 ht_3 ht_4 ht_5 ht_6 hs_1 hs_2 hs_3 hs_4 hs_5 hs_6
                        go_wp2
                        go_roundg k2
                        case measure => omega
                        case rel => exact ⟨(false || bk), wrap64 (x45 + 1), l7 ++ lf, l8 ++ ll, _, _, _, _, (by first | rfl | (simp; done) | (simp [*]; done)), (by first | rfl | (simp; done) | (simp [*]; done)), ⟨by have := HY.out; have := HJ.out; have := N2.out; have := OKN.out; rw [step45 HY.out.1 HJ.out.2 (Kd.C_max HR2.out)]; omega⟩, ⟨(by (with_reducible repeat (first | apply NetL.alloc | apply NetL.drewN | apply NetL.drew)); exact HN.out)⟩, ⟨by rw [step45 HY.out.1 HJ.out.2 (Kd.C_max HR2.out)]; have h_ := nvk_step HNV.out HJ.out.1 HJ.out.2; rw [← HKD.out, if_pos C3.out, ← HBK.out] at h_; exact h_⟩, ⟨by rw [step45 HY.out.1 HJ.out.2 (Kd.C_max HR2.out)]; exact Loc.step HLC.out HJ.out.1 HJ.out.2 (by rw [← HKD.out]; exact GFA.out) (by rw [← HKD.out]; exact GLA.out)⟩⟩
                · as_aux_lemma =>
                    have c3b0 : ((rd_T44 l0 x16).f0 == 3) = false := beq_eq_false_iff_ne.mpr c3
                    have C3 := Aside0.mk c3
                    clear c3
                    go_upto_region 14 with fail
                    have hfl : x16.toNat = fs.length := HG.out.1.1.symm
                    have hll : x16.toNat = ls.length := HG.out.2.1.1.symm
                    have hkr := KD.out
                    have hx0 := HI.out.1
                    obtain ⟨gn, cn, en, _, _, cln, hgn⟩ := Kd.R_form HN.out.net.rN (by rw [NL_length]; omega)
                    obtain ⟨gf, cf, ef, _, _, clf, hgf⟩ := Kd.R_form HN.out.net.rF (by omega)
                    obtain ⟨gl, cl, el, _, _, cll, hgl⟩ := Kd.R_form HN.out.net.rL (by omega)
                    subst en
                    subst ef
                    subst el
                    have hkn : kd < ((NL l0 x16.toNat).length : Int) := by rw [NL_length]; omega
                    have hkf : kd < (fs.length : Int) := by omega
                    have hkl : kd < (ls.length : Int) := by omega
                    obtain ⟨adn, e3, hxn⟩ := Kd.at_bool (Kd.R_reads' HN.out.net.rN).2.2 kd hkr.1 hkn
                    cases e3
                    obtain ⟨adf, Af, cf2, e4, hxf, hlf, hCf⟩ := at_rows (Kd.R_reads' HN.out.net.rF).2.2 kd hkr.1 hkf
                    cases e4
                    obtain ⟨adl, Al, cl2, e5, hxl, hlll, hCl⟩ := at_rows (Kd.R_reads' HN.out.net.rL).2.2 kd hkr.1 hkl
                    cases e5
                    rw [add_plain] at hxn hxf hxl
                    have GF := HG.out.1.at hkr.1 hkr.2
                    have GL_ := HG.out.2.1.at hkr.1 hkr.2
                    obtain ⟨lf, hlfe⟩ : ∃ l_, l_ = rdOf [] fs kd := ⟨_, rfl⟩
                    obtain ⟨ll, hlle⟩ : ∃ l_, l_ = rdOf [] ls kd := ⟨_, rfl⟩
                    obtain ⟨bk, hbk⟩ : ∃ b_, b_ = rdOf false (NL l0 x16.toNat) kd := ⟨_, rfl⟩
                    rw [← hlfe] at hxf hlf hCf GF
                    rw [← hlle] at hxl hlll hCl GL_
                    rw [← hbk] at hxn
                    have GFA := Aside0.mk GF
                    have GLA := Aside0.mk GL_
                    have HBK := Aside0.mk hbk
                    have HLE := Aside0.mk hlle
                    have HFE := Aside0.mk hlfe
                    have HCF := Aside0.mk hCf
                    have HCL := Aside0.mk hCl
                    have GN_ := Aside0.mk hgn
                    have GF_ := Aside0.mk hgf
                    have GL2 := Aside0.mk hgl
                    have KLL := Aside0.mk hkl
                    have LB := Aside0.mk (Loc.small OKN.out HI.out.1 HI.out.2 HLC.out)
                    have CB : Aside0 (c kd.toNat ≤ 40) := ⟨OKN.out.le kd.toNat (by have := HI.out.2; omega)⟩
                    have p3 := eq_true hkr.1
                    have q3n := eq_true hkn
                    have q3f := eq_true hkf
                    have q3l := eq_true hkl
                    clear hfl hll hkr hx0 hkn hkf hkl GF GL_ hlfe hlle hbk hCf hCl hgn hgf hgl hlf hlll
                    obtain ⟨gw, cw2, ew, _, _, clw, hgw⟩ := Kd.R_form HN.out.net.rW (by have := HWL.out; omega)
                    injection ew with ea_ en_ ec_
                    subst ea_
                    subst ec_
                    clear en_ hgw
                    obtain ⟨A8, c8, e8⟩ := Kd.R_slice HN.out.r8
                    subst e8
                    have hs_1 : wr.cell? ⟨gx, 1, none⟩ = some (.slice (some ⟨gn, 0, none⟩) (NL l0 x16.toNat).length cn) := (blk_cell HN.out.net.box 1).trans rfl
                    have hs_2 : wr.cell? ⟨gx, 2, none⟩ = some (.slice (some ⟨gf, 0, none⟩) fs.length cf) := (blk_cell HN.out.net.box 2).trans rfl
                    have hs_3 : wr.cell? ⟨gx, 3, none⟩ = some (.slice (some ⟨gl, 0, none⟩) ls.length cl) := (blk_cell HN.out.net.box 3).trans rfl
                    go_upto_region 15 with (first | ((with_reducible refine gate_callee (f := 65) rfl ?_); refine goesL_ (some 89) rfl rfl Try.func65 (by kernel_rfl) rfl #[.pointer (some ⟨gx, 0, none⟩), .slice A8 l8.length c8, .slice Af lf.length cf2] rfl (by (try simp only [List.map_toArray, List.map_cons, List.map_nil]); first | done | rfl | (simp only [List.length_drop, List.length_take]; rfl)) ?_; (with_reducible refine (impl_lead.calls gx (.slice (some ad1) l0.length c0) (.slice (some ⟨gn, 0, none⟩) (NL l0 x16.toNat).length cn) (.slice (some ⟨gf, 0, none⟩) fs.length cf) (.slice (some ⟨gl, 0, none⟩) ls.length cl) ⟨gw, 0, none⟩ cw ws1 A8 c8 l8 Af cf2 lf w _ ?ld1 ?ld2 ?ld3 ?ld4 ?ld5 ?ld6 ?ld7 ?ld8 ?ld9 ?ld10).mono ?_); (case ld1 => exact HN.out.net.bel); (case ld2 => exact HN.out.net.box); (case ld3 => exact (Kd.R_reads' HN.out.net.rW).2.2); (case ld4 => exact HN.out.net.maps); (case ld5 => exact HN.out.net.wsb); (case ld6 => exact (Kd.R_reads' HN.out.r8).2.2); (case ld7 => exact (by repeat (first | exact HCF.out | (with_reducible refine Kd.C_alloc ?_ _) | (with_reducible refine Kd.C_drewN ?_ _) | (with_reducible refine Kd.C_drew ?_)))); (case ld8 => exact (fun z hz => by have := HLC.out.in8 z hz; have := HWL.out; have := HI.out; omega)); (case ld9 => have := LB.out; omega); (case ld10 => have := GFA.out.1; have := CB.out; omega); rintro e w5 ⟨rfl, hm, hb, hk⟩; refine ⟨_, rfl, ?_⟩; have nf_ := Aside0.mk (reads_kept (d := kI) (fun h_ => h_) (by decide) HCF.out HN.out.net.maps w5 hk); have nl_ := Aside0.mk (reads_kept (d := kI) (fun h_ => h_) (by decide) HCL.out HN.out.net.maps w5 hk); have nn_ := Aside0.mk (NetL.led (by (with_reducible repeat (first | apply NetL.alloc | apply NetL.drewN | apply NetL.drew)); exact HN.out) hb hm hk); clear hm hb hk hs_1 hs_2 hs_3 HCF HCL HN; have HN := nn_; have HCF := nf_; have HCL := nl_; clear nn_ nf_ nl_))
                    clear HCF HCL GN_ GF_ GL2 hxn hxf hxl
                    try clear hcz_0 hcz_1 hcz_2 hcz_3 hfz_0 hfz_1 hfz_2 hfz_3
                    have hs_2 : w5.cell? ⟨gx, 2, none⟩ = some (.slice (some ⟨gf, 0, none⟩) fs.length cf) := (blk_cell HN.out.net.box 2).trans rfl
                    obtain ⟨adf, Af, cf2, e4, hxf, hlf, hCf⟩ := at_rows (Kd.R_reads' HN.out.net.rF).2.2 kd (of_eq_true p3) (of_eq_true q3f)
                    cases e4
                    rw [add_plain, ← HFE.out] at hxf
                    rw [← HFE.out] at hCf
                    clear hlf
                    have HCF := Aside0.mk hCf
                    clear hCf
                    go_upto_if 90 with fail
                    (try simp only [Act.put, List.setIfInBounds_toArray, List.set_cons_zero, List.set_cons_succ])
                    go_cut [7, 8] (fun v7 v8 wc => ∃ (l7' : List Int) (oF' oL' o7' o8' : Nat → Prop), Aside0 (NetL w.heap.size w wc gx #[.slice (some ad1) l0.length c0, (.slice (some ⟨gn, 0, none⟩) (NL l0 x16.toNat).length cn), (.slice (some ⟨gf, 0, none⟩) fs.length cf), (.slice (some ⟨gl, 0, none⟩) ls.length cl), (.slice (some ⟨gw, 0, none⟩) ws1.length cw)] (.slice (some ⟨gn, 0, none⟩) (NL l0 x16.toNat).length cn) (.slice (some ⟨gf, 0, none⟩) fs.length cf) (.slice (some ⟨gl, 0, none⟩) ls.length cl) (.slice (some ⟨gw, 0, none⟩) ws1.length cw) (NL l0 x16.toNat) fs ls ws1 oF' oL' gb #[.int .i64 (rd_T44 l0 x16).f0, .string (rd_T44 l0 x16).f1, .slice (some ad2) (rd_T44 l0 x16).f2.length c2, .int .i64 (rd_T44 l0 x16).f3] v7 v8 l7' l8 o7' o8') ∧ Aside0 (l7' = l7 ∨ l7' = l7 ++ lf))
                    case first =>
                      cases x6
                      case true =>
                        go_wp2_with (first | ((with_reducible refine gate_builtin (b := .append) (xs := #[.tmp 91, .tmp 98]) rfl ?_); (try (refine gate_guard (by rfl) ?_; dsimp only)); at_builtin; refine Kd.R_append_rows kI (w0 := w) w.heap.size rfl (.tmp 91) (.tmp 98) 41 2 (.int .i64 0) 8 rfl Try.underlying41 info2 rfl (by decide) (by omega) u7 l7 lf Af lf.length cf2 (fun k_ => o73 k_ ∨ w5.heap.size ≤ k_) (fun _ => False) rfl rfl ?aO ?aR (fun _ _ h_ => h_) (fun _ h_ => h_.elim) ?aF ?aB ?aS ?aL ?_; (case aR => exact HCF.out); (case aO => exact Kd.R_mono HN.out.r7 (fun _ h_ => .inl h_)); (case aF => exact (fun _ h_ => .inr h_)); (case aB => exact HN.out.net.bel); (case aS => exact HN.out.net.size); (case aL => have h1_ := LB.out; have h2_ := GFA.out.1; have h4_ := CB.out; omega); intro v99 wa6 ho hb hg hat; have nn_ := Aside0.mk (NetL.app7 HN.out hg ho); clear ho hb hg hat hs_2 hxf HCF HN; have HN := nn_; clear nn_))
                        go_meet
                        case rel => exact ⟨l7 ++ lf, _, _, _, _, ⟨(by (with_reducible repeat (first | apply NetL.alloc | apply NetL.drewN | apply NetL.drew)); exact HN.out)⟩, ⟨.inr rfl⟩⟩
                      case false =>
                        go_wp2
                        go_meet
                        case rel => exact ⟨l7, _, _, _, _, ⟨(by (with_reducible repeat (first | apply NetL.alloc | apply NetL.drewN | apply NetL.drew)); exact HN.out)⟩, ⟨.inl rfl⟩⟩
                    case rest =>
                      clear HN hs_2 hxf HCF
                      obtain ⟨l7b, oF4, oL4, o74, o84, HN, H7⟩ := hcut
                      have hs_1 : wc.cell? ⟨gx, 1, none⟩ = some (.slice (some ⟨gn, 0, none⟩) (NL l0 x16.toNat).length cn) := (blk_cell HN.out.net.box 1).trans rfl
                      obtain ⟨adn, e3, hxn⟩ := Kd.at_bool (Kd.R_reads' HN.out.net.rN).2.2 kd (of_eq_true p3) (of_eq_true q3n)
                      cases e3
                      rw [add_plain, ← HBK.out] at hxn
                      go_upto_if 107 with fail
                      (try simp only [Act.put, List.setIfInBounds_toArray, List.set_cons_zero, List.set_cons_succ])
                      go_cut [7, 8] (fun v7 v8 wc => ∃ (l8' : List Int) (oF' oL' o7' o8' : Nat → Prop), Aside0 (NetL w.heap.size w wc gx #[.slice (some ad1) l0.length c0, (.slice (some ⟨gn, 0, none⟩) (NL l0 x16.toNat).length cn), (.slice (some ⟨gf, 0, none⟩) fs.length cf), (.slice (some ⟨gl, 0, none⟩) ls.length cl), (.slice (some ⟨gw, 0, none⟩) ws1.length cw)] (.slice (some ⟨gn, 0, none⟩) (NL l0 x16.toNat).length cn) (.slice (some ⟨gf, 0, none⟩) fs.length cf) (.slice (some ⟨gl, 0, none⟩) ls.length cl) (.slice (some ⟨gw, 0, none⟩) ws1.length cw) (NL l0 x16.toNat) fs ls ws1 oF' oL' gb #[.int .i64 (rd_T44 l0 x16).f0, .string (rd_T44 l0 x16).f1, .slice (some ad2) (rd_T44 l0 x16).f2.length c2, .int .i64 (rd_T44 l0 x16).f3] v7 v8 l7b l8' o7' o8') ∧ Aside0 (l8' = l8 ∨ l8' = []))
                      case first =>
                        cases bk
                        case true =>
                          go_wp2
                          go_meet
                          case rel => exact ⟨l8, _, _, _, _, ⟨(by (with_reducible repeat (first | apply NetL.alloc | apply NetL.drewN | apply NetL.drew)); exact HN.out)⟩, ⟨.inl rfl⟩⟩
                        case false =>
                          go_wp2
                          go_meet
                          case rel => exact ⟨[], _, _, _, _, ⟨NetL.nil8 (by (with_reducible repeat (first | apply NetL.alloc | apply NetL.drewN | apply NetL.drew)); exact HN.out)⟩, ⟨.inr rfl⟩⟩
                      case rest =>
                        clear HN hs_1 hxn
                        obtain ⟨l8b, oF5, oL5, o75, o85, HN, H8⟩ := hcut
                        go_upto_region 19 with fail
                        obtain ⟨A8b, c8b, e8⟩ := Kd.R_slice HN.out.r8
                        subst e8
                        have nn_ := Aside0.mk (NetL.drew HN.out)
                        clear HN
                        have HN := nn_
                        clear nn_
                        obtain ⟨adn, e3, hxn⟩ := Kd.at_bool (Kd.R_reads' HN.out.net.rN).2.2 kd (of_eq_true p3) (of_eq_true q3n)
                        cases e3
                        rw [add_plain, ← HBK.out] at hxn
                        obtain ⟨adl, Al, cl2, e5, hxl, hlll, hCl⟩ := at_rows (Kd.R_reads' HN.out.net.rL).2.2 kd (of_eq_true p3) (of_eq_true q3l)
                        cases e5
                        rw [add_plain, ← HLE.out] at hxl
                        rw [← HLE.out] at hCl
                        clear hlll
                        have HCL := Aside0.mk hCl
                        clear hCl
                        have hs_1 : wc.drew.cell? ⟨gx, 1, none⟩ = some (.slice (some ⟨gn, 0, none⟩) (NL l0 x16.toNat).length cn) := (blk_cell HN.out.net.box 1).trans rfl
                        have hs_3 : wc.drew.cell? ⟨gx, 3, none⟩ = some (.slice (some ⟨gl, 0, none⟩) ls.length cl) := (blk_cell HN.out.net.box 3).trans rfl
                        have hs_4 : wc.drew.cell? ⟨gn, kd.toNat, none⟩ = some (.bool bk) := hxn
                        have hs_6 : wc.drew.cell? ⟨gl, kd.toNat, none⟩ = some (.slice Al ll.length cl2) := hxl
                        obtain ⟨cln, hgn⟩ := Kd.R_typed HN.out.net.rN gn rfl
                        obtain ⟨cll, hgl⟩ := Kd.R_typed HN.out.net.rL gl rfl
                        have nGN_ := Aside0.mk hgn
                        have nGL2 := Aside0.mk hgl
                        have LB8 : Aside0 (l8b.length ≤ 40) := ⟨by have := LB.out; rcases H8.out with h_ | h_ <;> rw [h_] <;> simp <;> omega⟩
                        clear hxn hxl hgn hgl
                        cases x6
                        case true =>
                          as_aux_lemma =>
                            refine start_ (n := 22) (S := fun w' => w'.cell? ⟨gx, 1, none⟩ = some (.slice (some ⟨gn, 0, none⟩) (NL l0 x16.toNat).length cn) ∧ w'.cell? ⟨gx, 3, none⟩ = some (.slice (some ⟨gl, 0, none⟩) ls.length cl) ∧ w'.cell? ⟨gn, kd.toNat, none⟩ = some (.bool bk) ∧ w'.cell? ⟨gl, kd.toNat, none⟩ = some (.slice Al ll.length cl2)) (ds := []) (bL 22 0) (by kernel_rfl) rfl (by kernel_rfl) ⟨hs_1, hs_3, hs_4, hs_6⟩ (fun hHeld => ?_)
                            refine with_tabW impl_netOf.tab19 impl_netOf.bits19 (fun HT_ HW_ => ?_)
                            generalize wc.drew = w12 at HN hs_1 hs_3 hs_4 hs_6 HCL nGN_ nGL2 hHeld ⊢
                            refine pure_ (i := 0) (N := some 108) (v := ?_) (a' := ?_) (bL 22 1) rfl rfl (any_of HT_.out (by kernel_rfl)) (fun _ _ _ h => h) (Or.inl ⟨by rfl, ?_⟩) ?_ ?_
                            rotate_left
                            ·intro w'
                             go_simp
                             with_reducible rfl
                            rotate_left
                            ·simp only [Act.put, List.setIfInBounds_toArray, List.set_cons_zero, List.set_cons_succ, i64_w, i32_w]
                             rfl
                            refine pure_ (i := 1) (N := some 109) (v := ?_) (a' := ?_) (bL 22 3) rfl rfl (any_of HT_.out (by kernel_rfl)) (fun _ _ _ h => h) (Or.inl ⟨by rfl, ?_⟩) ?_ ?_
                            rotate_left
                            ·intro w'
                             go_simp
                             with_reducible rfl
                            rotate_left
                            ·simp only [Act.put, List.setIfInBounds_toArray, List.set_cons_zero, List.set_cons_succ, i64_w, i32_w]
                             rfl
                            refine pure_ (i := 2) (N := some 110) (v := ?_) (a' := ?_) (bL 22 7) rfl rfl (any_of HT_.out (by kernel_rfl)) (fun _ _ _ h => h) (Or.inl ⟨by rfl, ?_⟩) ?_ ?_
                            rotate_left
                            ·intro w'
                             go_simp
                             with_reducible rfl
                            rotate_left
                            ·simp only [Act.put, List.setIfInBounds_toArray, List.set_cons_zero, List.set_cons_succ, i64_w, i32_w]
                             rfl
                            refine pure_ (i := 3) (N := some 111) (v := ?_) (a' := ?_) (bL 22 15) rfl rfl (any_of HT_.out (by kernel_rfl)) (fun _ _ _ h => h) (Or.inl ⟨by rfl, ?_⟩) ?_ ?_
                            rotate_left
                            ·intro w'
                             go_simp
                             with_reducible rfl
                            rotate_left
                            ·simp only [Act.put, List.setIfInBounds_toArray, List.set_cons_zero, List.set_cons_succ, i64_w, i32_w]
                             rfl
                            refine pure_ (i := 4) (N := some 112) (v := ?_) (a' := ?_) (bL 22 31) rfl rfl (any_of HT_.out (by kernel_rfl)) (fun _ _ _ h => h) (Or.inl ⟨by rfl, ?_⟩) ?_ ?_
                            rotate_left
                            ·intro w'
                             go_simp
                             with_reducible rfl
                            rotate_left
                            ·simp only [Act.put, List.setIfInBounds_toArray, List.set_cons_zero, List.set_cons_succ, i64_w, i32_w]
                             rfl
                            refine take_ (i := 5) (N := some 113) (v := ?_) (a' := ?_) (bL 22 63) rfl rfl (take_ofW HT_.out HW_.out (by kernel_rfl)) (fun _ _ _ h => h) (Or.inl ⟨by rfl, ?_⟩) hHeld ?_ ?_
                            rotate_left
                            ·rintro w' ⟨s0, s1, s2, s3⟩
                             go_simp
                             with_reducible rfl
                            rotate_left
                            ·simp only [Act.put, List.setIfInBounds_toArray, List.set_cons_zero, List.set_cons_succ, i64_w, i32_w]
                             rfl
                            refine pure_ (i := 6) (N := some 114) (v := ?_) (a' := ?_) (bL 22 127) rfl rfl (any_of HT_.out (by kernel_rfl)) (fun _ _ _ h => h) (Or.inl ⟨by rfl, ?_⟩) ?_ ?_
                            rotate_left
                            ·intro w'
                             go_simp
                             with_reducible rfl
                            rotate_left
                            ·simp only [Act.put, List.setIfInBounds_toArray, List.set_cons_zero, List.set_cons_succ, i64_w, i32_w]
                             rfl
                            refine pure_ (i := 7) (N := some 115) (v := ?_) (a' := ?_) (bL 22 255) rfl rfl (any_of HT_.out (by kernel_rfl)) (fun _ _ _ h => h) (Or.inl ⟨by rfl, ?_⟩) ?_ ?_
                            rotate_left
                            ·intro w'
                             go_simp
                             with_reducible rfl
                            rotate_left
                            ·simp only [Act.put, List.setIfInBounds_toArray, List.set_cons_zero, List.set_cons_succ, i64_w, i32_w]
                             rfl
                            refine take_ (i := 8) (N := some 116) (v := ?_) (a' := ?_) (bL 22 511) rfl rfl (take_ofW HT_.out HW_.out (by kernel_rfl)) (fun _ _ _ h => h) (Or.inl ⟨by rfl, ?_⟩) hHeld ?_ ?_
                            rotate_left
                            ·rintro w' ⟨s0, s1, s2, s3⟩
                             go_simp
                             with_reducible rfl
                            rotate_left
                            ·simp only [Act.put, List.setIfInBounds_toArray, List.set_cons_zero, List.set_cons_succ, i64_w, i32_w]
                             rfl
                            refine pure_ (i := 9) (N := some 117) (v := ?_) (a' := ?_) (bL 22 1023) rfl rfl (any_of HT_.out (by kernel_rfl)) (fun _ _ _ h => h) (Or.inl ⟨by rfl, ?_⟩) ?_ ?_
                            rotate_left
                            ·intro w'
                             go_simp
                             with_reducible rfl
                            rotate_left
                            ·simp only [Act.put, List.setIfInBounds_toArray, List.set_cons_zero, List.set_cons_succ, i64_w, i32_w]
                             rfl
                            refine pure_ (i := 10) (N := some 118) (v := ?_) (a' := ?_) (bL 22 2047) rfl rfl (any_of HT_.out (by kernel_rfl)) (fun _ _ _ h => h) (Or.inl ⟨by rfl, ?_⟩) ?_ ?_
                            rotate_left
                            ·intro w'
                             go_simp
                             with_reducible rfl
                            rotate_left
                            ·simp only [Act.put, List.setIfInBounds_toArray, List.set_cons_zero, List.set_cons_succ, i64_w, i32_w]
                             rfl
                            refine pure_ (i := 12) (N := some 120) (v := ?_) (a' := ?_) (bL 22 6143) rfl rfl (any_of HT_.out (by kernel_rfl)) (fun _ _ _ h => h) (Or.inl ⟨by rfl, ?_⟩) ?_ ?_
                            rotate_left
                            ·intro w'
                             go_simp
                             with_reducible rfl
                            rotate_left
                            ·simp only [Act.put, List.setIfInBounds_toArray, List.set_cons_zero, List.set_cons_succ, i64_w, i32_w]
                             rfl
                            refine pure_ (i := 13) (N := some 121) (v := ?_) (a' := ?_) (bL 22 14335) rfl rfl (any_of HT_.out (by kernel_rfl)) (fun _ _ _ h => h) (Or.inl ⟨by rfl, ?_⟩) ?_ ?_
                            rotate_left
                            ·intro w'
                             go_simp
                             with_reducible rfl
                            rotate_left
                            ·simp only [Act.put, List.setIfInBounds_toArray, List.set_cons_zero, List.set_cons_succ, i64_w, i32_w]
                             rfl
                            refine pure_ (i := 14) (N := some 122) (v := ?_) (a' := ?_) (bL 22 30719) rfl rfl (any_of HT_.out (by kernel_rfl)) (fun _ _ _ h => h) (Or.inl ⟨by rfl, ?_⟩) ?_ ?_
                            rotate_left
                            ·intro w'
                             go_simp
                             with_reducible rfl
                            rotate_left
                            ·simp only [Act.put, List.setIfInBounds_toArray, List.set_cons_zero, List.set_cons_succ, i64_w, i32_w]
                             rfl
                            refine take_ (i := 15) (N := some 123) (v := ?_) (a' := ?_) (bL 22 63487) rfl rfl (take_ofW HT_.out HW_.out (by kernel_rfl)) (fun _ _ _ h => h) (Or.inl ⟨by rfl, ?_⟩) hHeld ?_ ?_
                            rotate_left
                            ·rintro w' ⟨s0, s1, s2, s3⟩
                             go_simp
                             with_reducible rfl
                            rotate_left
                            ·simp only [Act.put, List.setIfInBounds_toArray, List.set_cons_zero, List.set_cons_succ, i64_w, i32_w]
                             rfl
                            refine pure_ (i := 16) (N := some 124) (v := ?_) (a' := ?_) (bL 22 129023) rfl rfl (any_of HT_.out (by kernel_rfl)) (fun _ _ _ h => h) (Or.inl ⟨by rfl, ?_⟩) ?_ ?_
                            rotate_left
                            ·intro w'
                             go_simp
                             with_reducible rfl
                            rotate_left
                            ·simp only [Act.put, List.setIfInBounds_toArray, List.set_cons_zero, List.set_cons_succ, i64_w, i32_w]
                             rfl
                            refine pure_ (i := 17) (N := some 125) (v := ?_) (a' := ?_) (bL 22 260095) rfl rfl (any_of HT_.out (by kernel_rfl)) (fun _ _ _ h => h) (Or.inl ⟨by rfl, ?_⟩) ?_ ?_
                            rotate_left
                            ·intro w'
                             go_simp
                             with_reducible rfl
                            rotate_left
                            ·simp only [Act.put, List.setIfInBounds_toArray, List.set_cons_zero, List.set_cons_succ, i64_w, i32_w]
                             rfl
                            refine take_ (i := 18) (N := some 126) (v := ?_) (a' := ?_) (bL 22 522239) rfl rfl (take_ofW HT_.out HW_.out (by kernel_rfl)) (fun _ _ _ h => h) (Or.inl ⟨by rfl, ?_⟩) hHeld ?_ ?_
                            rotate_left
                            ·rintro w' ⟨s0, s1, s2, s3⟩
                             go_simp
                             with_reducible rfl
                            rotate_left
                            ·simp only [Act.put, List.setIfInBounds_toArray, List.set_cons_zero, List.set_cons_succ, i64_w, i32_w]
                             rfl
                            refine one_ (i := 11) (N := some 119) (bL 22 524287) rfl rfl (one_of HT_.out (by kernel_rfl)) (by decide) (fun K hK => ?_)
                            refine goes_ (f := 66) Try.func66 (by kernel_rfl) rfl #[.slice A8b l8b.length c8b] (by rfl) rfl rfl (by (try simp only [List.map_toArray, List.map_cons, List.map_nil]); first | done | rfl | (simp only [List.length_drop, List.length_take]; rfl)) ?_
                            (with_reducible refine (slices_Clone_int64_int64.calls A8b c8b l8b _ ?cl1t ?cl2t).mono ?_)
                            (case cl1t => exact (Kd.R_reads' HN.out.r8).2.2)
                            (case cl2t => have := LB8.out; omega)
                            rintro e w13 ⟨v119, rfl, ho, hb⟩
                            refine ⟨_, rfl, ?_⟩
                            have nn_ := Aside0.mk (NetL.swap (NetL.new7 (NetL.swap HN.out) hb ho))
                            have ht_1 : w13.cell? ⟨gx, 1, none⟩ = some (.slice (some ⟨gn, 0, none⟩) (NL l0 x16.toNat).length cn) := (blk_cell nn_.out.net.box 1).trans rfl
                            have ht_3 : w13.cell? ⟨gx, 3, none⟩ = some (.slice (some ⟨gl, 0, none⟩) ls.length cl) := (blk_cell nn_.out.net.box 3).trans rfl
                            have ht_4 := (hb.cell (World.block_lt_of_cell? w12 _ hs_4)).trans hs_4
                            have ht_6 := (hb.cell (World.block_lt_of_cell? w12 _ hs_6)).trans hs_6
                            have mGN := Aside0.mk (blk_below nGN_.out hb)
                            have mGL := Aside0.mk (blk_below nGL2.out hb)
                            have mCL := Aside0.mk (Kd.C_below HCL.out hb)
                            refine hK.out _ _ ⟨ht_1, ht_3, ht_4, ht_6⟩ (fun hHeld2 => ?_)
                            clear hK K hHeld ho hb HN
                            have HN := nn_
                            clear nn_
                            refine norm_ (a' := ?_) ?_ ?_
                            rotate_left
                            ·show Act.put _ (some 119) _ = _
                             simp only [Act.put, List.setIfInBounds_toArray, List.set_cons_zero, List.set_cons_succ, i64_w, i32_w]
                             rfl
                            refine one_ (i := 19) (N := some 127) (bL 22 1048575) rfl rfl (one_of HT_.out (by kernel_rfl)) (by decide) (fun K hK => ?_)
                            refine Kd.R_append_rows_step kI (w0 := w) w.heap.size (by rfl) (.tmp 119) (.tmp 126) 41 2 (.int .i64 0) 8 rfl Try.underlying41 info2 rfl (by decide) (by omega) v119 l8b ll _ _ _ (fun k_ => (fun k_ => w12.heap.size ≤ k_) k_ ∨ w13.heap.size ≤ k_) (fun _ => False) rfl rfl ?aO ?aR (fun _ _ h_ => h_) (fun _ h_ => h_.elim) ?aF ?aB ?aS ?aL ?_
                            (case aR => exact mCL.out)
                            (case aO => exact Kd.R_mono HN.out.r8 (fun _ h_ => .inl h_))
                            (case aF => exact (fun _ h_ => .inr h_))
                            (case aB => exact HN.out.net.bel)
                            (case aS => exact HN.out.net.size)
                            (case aL => have h1_ := LB8.out; have h2_ := GFA.out.1; have h3_ := GLA.out.1; have h4_ := CB.out; omega)
                            intro v127 w14 ho hb hg hat
                            have nn_ := Aside0.mk (NetL.swap (NetL.app7 (NetL.swap HN.out) hg ho))
                            clear hat
                            have hu_1 : w14.cell? ⟨gx, 1, none⟩ = some (.slice (some ⟨gn, 0, none⟩) (NL l0 x16.toNat).length cn) := (blk_cell nn_.out.net.box 1).trans rfl
                            have hu_3 : w14.cell? ⟨gx, 3, none⟩ = some (.slice (some ⟨gl, 0, none⟩) ls.length cl) := (blk_cell nn_.out.net.box 3).trans rfl
                            have hu_4 := cell_grown hg ht_4 (Kd.R_ne HN.out.r8 mGN.out (by decide))
                            have hu_6 := cell_grown hg ht_6 (Kd.R_ne HN.out.r8 mGL.out (by decide))
                            refine hK.out _ _ ⟨hu_1, hu_3, hu_4, hu_6⟩ (fun hHeld3 => ?_)
                            clear hK K ho hb hg HN hu_1 hu_3 hu_4 hu_6
                            have HN := nn_
                            clear nn_
                            refine norm_ (a' := ?_) ?_ ?_
                            rotate_left
                            ·show Act.put _ (some 127) _ = _
                             simp only [Act.put, List.setIfInBounds_toArray, List.set_cons_zero, List.set_cons_succ, i64_w, i32_w]
                             rfl
                            refine pure_ (i := 20) (N := some 6) (v := ?_) (a' := ?_) (bL 22 2097151) rfl rfl (any_of HT_.out (by kernel_rfl)) (fun _ _ _ h => h) (Or.inl ⟨by rfl, ?_⟩) ?_ ?_
                            rotate_left
                            ·intro w'
                             go_simp
                             with_reducible rfl
                            rotate_left
                            ·simp only [Act.put, List.setIfInBounds_toArray, List.set_cons_zero, List.set_cons_succ, i64_w, i32_w]
                             rfl
                            refine pure_ (i := 21) (N := some 8) (v := ?_) (a' := ?_) (bL 22 4194303) rfl rfl (any_of HT_.out (by kernel_rfl)) (fun _ _ _ h => h) (Or.inl ⟨by rfl, ?_⟩) ?_ ?_
                            rotate_left
                            ·intro w'
                             go_simp
                             with_reducible rfl
                            rotate_left
                            ·simp only [Act.put, List.setIfInBounds_toArray, List.set_cons_zero, List.set_cons_succ, i64_w, i32_w]
                             rfl
                            refine done_ (done_of HT_.out (by kernel_rfl)) ?_
                            try clear ht_1 ht_3 ht_4 ht_6 hs_1 hs_3 hs_4 hs_6
                            go_wp2
                            go_roundg k2
                            case measure => omega
                            case rel => exact ⟨(true && bk), wrap64 (x45 + 1), l7b, l8b ++ ll, _, _, _, _, (by first | rfl | (simp; done) | (simp [*]; done)), (by first | rfl | (simp; done) | (simp [*]; done)), ⟨by have := HY.out; have := HJ.out; have := N2.out; have := OKN.out; rw [step45 HY.out.1 HJ.out.2 (Kd.C_max HR2.out)]; omega⟩, ⟨(by (with_reducible repeat (first | apply NetL.alloc | apply NetL.drewN | apply NetL.drew)); exact HN.out)⟩, ⟨by rw [step45 HY.out.1 HJ.out.2 (Kd.C_max HR2.out)]; have h_ := nvk_step HNV.out HJ.out.1 HJ.out.2; rw [← HKD.out, if_neg C3.out, ← HBK.out] at h_; exact h_⟩, ⟨by rw [step45 HY.out.1 HJ.out.2 (Kd.C_max HR2.out)]; exact Loc.step2 HLC.out HJ.out.1 HJ.out.2 (by rw [← HKD.out]; exact GFA.out) (by rw [← HKD.out]; exact GLA.out) H7.out H8.out⟩⟩
                        case false =>
                          as_aux_lemma =>
                            refine start_ (n := 22) (S := fun w' => w'.cell? ⟨gx, 1, none⟩ = some (.slice (some ⟨gn, 0, none⟩) (NL l0 x16.toNat).length cn) ∧ w'.cell? ⟨gx, 3, none⟩ = some (.slice (some ⟨gl, 0, none⟩) ls.length cl) ∧ w'.cell? ⟨gn, kd.toNat, none⟩ = some (.bool bk) ∧ w'.cell? ⟨gl, kd.toNat, none⟩ = some (.slice Al ll.length cl2)) (ds := []) (bL 22 0) (by kernel_rfl) rfl (by kernel_rfl) ⟨hs_1, hs_3, hs_4, hs_6⟩ (fun hHeld => ?_)
                            refine with_tabW impl_netOf.tab19 impl_netOf.bits19 (fun HT_ HW_ => ?_)
                            generalize wc.drew = w12 at HN hs_1 hs_3 hs_4 hs_6 HCL nGN_ nGL2 hHeld ⊢
                            refine pure_ (i := 0) (N := some 108) (v := ?_) (a' := ?_) (bL 22 1) rfl rfl (any_of HT_.out (by kernel_rfl)) (fun _ _ _ h => h) (Or.inl ⟨by rfl, ?_⟩) ?_ ?_
                            rotate_left
                            ·intro w'
                             go_simp
                             with_reducible rfl
                            rotate_left
                            ·simp only [Act.put, List.setIfInBounds_toArray, List.set_cons_zero, List.set_cons_succ, i64_w, i32_w]
                             rfl
                            refine pure_ (i := 1) (N := some 109) (v := ?_) (a' := ?_) (bL 22 3) rfl rfl (any_of HT_.out (by kernel_rfl)) (fun _ _ _ h => h) (Or.inl ⟨by rfl, ?_⟩) ?_ ?_
                            rotate_left
                            ·intro w'
                             go_simp
                             with_reducible rfl
                            rotate_left
                            ·simp only [Act.put, List.setIfInBounds_toArray, List.set_cons_zero, List.set_cons_succ, i64_w, i32_w]
                             rfl
                            refine pure_ (i := 2) (N := some 110) (v := undef) (a' := ?_) (bL 22 7) rfl rfl (any_of HT_.out (by kernel_rfl)) (fun _ _ _ h => h) (Or.inr ⟨by rfl, rfl⟩) ?_ ?_
                            rotate_left
                            ·simp only [Act.put, List.setIfInBounds_toArray, List.set_cons_zero, List.set_cons_succ, i64_w, i32_w]
                             rfl
                            refine pure_ (i := 3) (N := some 111) (v := undef) (a' := ?_) (bL 22 15) rfl rfl (any_of HT_.out (by kernel_rfl)) (fun _ _ _ h => h) (Or.inr ⟨by rfl, rfl⟩) ?_ ?_
                            rotate_left
                            ·simp only [Act.put, List.setIfInBounds_toArray, List.set_cons_zero, List.set_cons_succ, i64_w, i32_w]
                             rfl
                            refine pure_ (i := 4) (N := some 112) (v := undef) (a' := ?_) (bL 22 31) rfl rfl (any_of HT_.out (by kernel_rfl)) (fun _ _ _ h => h) (Or.inr ⟨by rfl, rfl⟩) ?_ ?_
                            rotate_left
                            ·simp only [Act.put, List.setIfInBounds_toArray, List.set_cons_zero, List.set_cons_succ, i64_w, i32_w]
                             rfl
                            refine pure_ (i := 5) (N := some 113) (v := undef) (a' := ?_) (bL 22 63) rfl rfl (any_of HT_.out (by kernel_rfl)) (fun _ _ _ h => h) (Or.inr ⟨by rfl, rfl⟩) ?_ ?_
                            rotate_left
                            ·simp only [Act.put, List.setIfInBounds_toArray, List.set_cons_zero, List.set_cons_succ, i64_w, i32_w]
                             rfl
                            refine pure_ (i := 6) (N := some 114) (v := undef) (a' := ?_) (bL 22 127) rfl rfl (any_of HT_.out (by kernel_rfl)) (fun _ _ _ h => h) (Or.inr ⟨by rfl, rfl⟩) ?_ ?_
                            rotate_left
                            ·simp only [Act.put, List.setIfInBounds_toArray, List.set_cons_zero, List.set_cons_succ, i64_w, i32_w]
                             rfl
                            refine pure_ (i := 7) (N := some 115) (v := undef) (a' := ?_) (bL 22 255) rfl rfl (any_of HT_.out (by kernel_rfl)) (fun _ _ _ h => h) (Or.inr ⟨by rfl, rfl⟩) ?_ ?_
                            rotate_left
                            ·simp only [Act.put, List.setIfInBounds_toArray, List.set_cons_zero, List.set_cons_succ, i64_w, i32_w]
                             rfl
                            refine pure_ (i := 8) (N := some 116) (v := undef) (a' := ?_) (bL 22 511) rfl rfl (any_of HT_.out (by kernel_rfl)) (fun _ _ _ h => h) (Or.inr ⟨by rfl, rfl⟩) ?_ ?_
                            rotate_left
                            ·simp only [Act.put, List.setIfInBounds_toArray, List.set_cons_zero, List.set_cons_succ, i64_w, i32_w]
                             rfl
                            refine pure_ (i := 9) (N := some 117) (v := ?_) (a' := ?_) (bL 22 1023) rfl rfl (any_of HT_.out (by kernel_rfl)) (fun _ _ _ h => h) (Or.inl ⟨by rfl, ?_⟩) ?_ ?_
                            rotate_left
                            ·intro w'
                             go_simp
                             with_reducible rfl
                            rotate_left
                            ·simp only [Act.put, List.setIfInBounds_toArray, List.set_cons_zero, List.set_cons_succ, i64_w, i32_w]
                             rfl
                            refine pure_ (i := 10) (N := some 118) (v := ?_) (a' := ?_) (bL 22 2047) rfl rfl (any_of HT_.out (by kernel_rfl)) (fun _ _ _ h => h) (Or.inl ⟨by rfl, ?_⟩) ?_ ?_
                            rotate_left
                            ·intro w'
                             go_simp
                             with_reducible rfl
                            rotate_left
                            ·simp only [Act.put, List.setIfInBounds_toArray, List.set_cons_zero, List.set_cons_succ, i64_w, i32_w]
                             rfl
                            refine pure_ (i := 12) (N := some 120) (v := ?_) (a' := ?_) (bL 22 6143) rfl rfl (any_of HT_.out (by kernel_rfl)) (fun _ _ _ h => h) (Or.inl ⟨by rfl, ?_⟩) ?_ ?_
                            rotate_left
                            ·intro w'
                             go_simp
                             with_reducible rfl
                            rotate_left
                            ·simp only [Act.put, List.setIfInBounds_toArray, List.set_cons_zero, List.set_cons_succ, i64_w, i32_w]
                             rfl
                            refine pure_ (i := 13) (N := some 121) (v := ?_) (a' := ?_) (bL 22 14335) rfl rfl (any_of HT_.out (by kernel_rfl)) (fun _ _ _ h => h) (Or.inl ⟨by rfl, ?_⟩) ?_ ?_
                            rotate_left
                            ·intro w'
                             go_simp
                             with_reducible rfl
                            rotate_left
                            ·simp only [Act.put, List.setIfInBounds_toArray, List.set_cons_zero, List.set_cons_succ, i64_w, i32_w]
                             rfl
                            refine pure_ (i := 14) (N := some 122) (v := ?_) (a' := ?_) (bL 22 30719) rfl rfl (any_of HT_.out (by kernel_rfl)) (fun _ _ _ h => h) (Or.inl ⟨by rfl, ?_⟩) ?_ ?_
                            rotate_left
                            ·intro w'
                             go_simp
                             with_reducible rfl
                            rotate_left
                            ·simp only [Act.put, List.setIfInBounds_toArray, List.set_cons_zero, List.set_cons_succ, i64_w, i32_w]
                             rfl
                            refine take_ (i := 15) (N := some 123) (v := ?_) (a' := ?_) (bL 22 63487) rfl rfl (take_ofW HT_.out HW_.out (by kernel_rfl)) (fun _ _ _ h => h) (Or.inl ⟨by rfl, ?_⟩) hHeld ?_ ?_
                            rotate_left
                            ·rintro w' ⟨s0, s1, s2, s3⟩
                             go_simp
                             with_reducible rfl
                            rotate_left
                            ·simp only [Act.put, List.setIfInBounds_toArray, List.set_cons_zero, List.set_cons_succ, i64_w, i32_w]
                             rfl
                            refine pure_ (i := 16) (N := some 124) (v := ?_) (a' := ?_) (bL 22 129023) rfl rfl (any_of HT_.out (by kernel_rfl)) (fun _ _ _ h => h) (Or.inl ⟨by rfl, ?_⟩) ?_ ?_
                            rotate_left
                            ·intro w'
                             go_simp
                             with_reducible rfl
                            rotate_left
                            ·simp only [Act.put, List.setIfInBounds_toArray, List.set_cons_zero, List.set_cons_succ, i64_w, i32_w]
                             rfl
                            refine pure_ (i := 17) (N := some 125) (v := ?_) (a' := ?_) (bL 22 260095) rfl rfl (any_of HT_.out (by kernel_rfl)) (fun _ _ _ h => h) (Or.inl ⟨by rfl, ?_⟩) ?_ ?_
                            rotate_left
                            ·intro w'
                             go_simp
                             with_reducible rfl
                            rotate_left
                            ·simp only [Act.put, List.setIfInBounds_toArray, List.set_cons_zero, List.set_cons_succ, i64_w, i32_w]
                             rfl
                            refine take_ (i := 18) (N := some 126) (v := ?_) (a' := ?_) (bL 22 522239) rfl rfl (take_ofW HT_.out HW_.out (by kernel_rfl)) (fun _ _ _ h => h) (Or.inl ⟨by rfl, ?_⟩) hHeld ?_ ?_
                            rotate_left
                            ·rintro w' ⟨s0, s1, s2, s3⟩
                             go_simp
                             with_reducible rfl
                            rotate_left
                            ·simp only [Act.put, List.setIfInBounds_toArray, List.set_cons_zero, List.set_cons_succ, i64_w, i32_w]
                             rfl
                            refine one_ (i := 11) (N := some 119) (bL 22 524287) rfl rfl (one_of HT_.out (by kernel_rfl)) (by decide) (fun K hK => ?_)
                            refine goes_ (f := 66) Try.func66 (by kernel_rfl) rfl #[.slice A8b l8b.length c8b] (by rfl) rfl rfl (by (try simp only [List.map_toArray, List.map_cons, List.map_nil]); first | done | rfl | (simp only [List.length_drop, List.length_take]; rfl)) ?_
                            (with_reducible refine (slices_Clone_int64_int64.calls A8b c8b l8b _ ?cl1f ?cl2f).mono ?_)
                            (case cl1f => exact (Kd.R_reads' HN.out.r8).2.2)
                            (case cl2f => have := LB8.out; omega)
                            rintro e w13 ⟨v119, rfl, ho, hb⟩
                            refine ⟨_, rfl, ?_⟩
                            have nn_ := Aside0.mk (NetL.swap (NetL.new7 (NetL.swap HN.out) hb ho))
                            have ht_1 : w13.cell? ⟨gx, 1, none⟩ = some (.slice (some ⟨gn, 0, none⟩) (NL l0 x16.toNat).length cn) := (blk_cell nn_.out.net.box 1).trans rfl
                            have ht_3 : w13.cell? ⟨gx, 3, none⟩ = some (.slice (some ⟨gl, 0, none⟩) ls.length cl) := (blk_cell nn_.out.net.box 3).trans rfl
                            have ht_4 := (hb.cell (World.block_lt_of_cell? w12 _ hs_4)).trans hs_4
                            have ht_6 := (hb.cell (World.block_lt_of_cell? w12 _ hs_6)).trans hs_6
                            have mGN := Aside0.mk (blk_below nGN_.out hb)
                            have mGL := Aside0.mk (blk_below nGL2.out hb)
                            have mCL := Aside0.mk (Kd.C_below HCL.out hb)
                            refine hK.out _ _ ⟨ht_1, ht_3, ht_4, ht_6⟩ (fun hHeld2 => ?_)
                            clear hK K hHeld ho hb HN
                            have HN := nn_
                            clear nn_
                            refine norm_ (a' := ?_) ?_ ?_
                            rotate_left
                            ·show Act.put _ (some 119) _ = _
                             simp only [Act.put, List.setIfInBounds_toArray, List.set_cons_zero, List.set_cons_succ, i64_w, i32_w]
                             rfl
                            refine one_ (i := 19) (N := some 127) (bL 22 1048575) rfl rfl (one_of HT_.out (by kernel_rfl)) (by decide) (fun K hK => ?_)
                            refine Kd.R_append_rows_step kI (w0 := w) w.heap.size (by rfl) (.tmp 119) (.tmp 126) 41 2 (.int .i64 0) 8 rfl Try.underlying41 info2 rfl (by decide) (by omega) v119 l8b ll _ _ _ (fun k_ => (fun k_ => w12.heap.size ≤ k_) k_ ∨ w13.heap.size ≤ k_) (fun _ => False) rfl rfl ?aO ?aR (fun _ _ h_ => h_) (fun _ h_ => h_.elim) ?aF ?aB ?aS ?aL ?_
                            (case aR => exact mCL.out)
                            (case aO => exact Kd.R_mono HN.out.r8 (fun _ h_ => .inl h_))
                            (case aF => exact (fun _ h_ => .inr h_))
                            (case aB => exact HN.out.net.bel)
                            (case aS => exact HN.out.net.size)
                            (case aL => have h1_ := LB8.out; have h2_ := GFA.out.1; have h3_ := GLA.out.1; have h4_ := CB.out; omega)
                            intro v127 w14 ho hb hg hat
                            have nn_ := Aside0.mk (NetL.swap (NetL.app7 (NetL.swap HN.out) hg ho))
                            clear hat
                            have hu_1 : w14.cell? ⟨gx, 1, none⟩ = some (.slice (some ⟨gn, 0, none⟩) (NL l0 x16.toNat).length cn) := (blk_cell nn_.out.net.box 1).trans rfl
                            have hu_3 : w14.cell? ⟨gx, 3, none⟩ = some (.slice (some ⟨gl, 0, none⟩) ls.length cl) := (blk_cell nn_.out.net.box 3).trans rfl
                            have hu_4 := cell_grown hg ht_4 (Kd.R_ne HN.out.r8 mGN.out (by decide))
                            have hu_6 := cell_grown hg ht_6 (Kd.R_ne HN.out.r8 mGL.out (by decide))
                            refine hK.out _ _ ⟨hu_1, hu_3, hu_4, hu_6⟩ (fun hHeld3 => ?_)
                            clear hK K ho hb hg HN hu_1 hu_3 hu_4 hu_6
                            have HN := nn_
                            clear nn_
                            refine norm_ (a' := ?_) ?_ ?_
                            rotate_left
                            ·show Act.put _ (some 127) _ = _
                             simp only [Act.put, List.setIfInBounds_toArray, List.set_cons_zero, List.set_cons_succ, i64_w, i32_w]
                             rfl
                            refine pure_ (i := 20) (N := some 6) (v := ?_) (a' := ?_) (bL 22 2097151) rfl rfl (any_of HT_.out (by kernel_rfl)) (fun _ _ _ h => h) (Or.inl ⟨by rfl, ?_⟩) ?_ ?_
                            rotate_left
                            ·intro w'
                             go_simp
                             with_reducible rfl
                            rotate_left
                            ·simp only [Act.put, List.setIfInBounds_toArray, List.set_cons_zero, List.set_cons_succ, i64_w, i32_w]
                             rfl
                            refine pure_ (i := 21) (N := some 8) (v := ?_) (a' := ?_) (bL 22 4194303) rfl rfl (any_of HT_.out (by kernel_rfl)) (fun _ _ _ h => h) (Or.inl ⟨by rfl, ?_⟩) ?_ ?_
                            rotate_left
                            ·intro w'
                             go_simp
                             with_reducible rfl
                            rotate_left
                            ·simp only [Act.put, List.setIfInBounds_toArray, List.set_cons_zero, List.set_cons_succ, i64_w, i32_w]
                             rfl
                            refine done_ (done_of HT_.out (by kernel_rfl)) ?_
                            try clear ht_1 ht_3 ht_4 ht_6 hs_1 hs_3 hs_4 hs_6
                            go_wp2
                            go_roundg k2
                            case measure => omega
                            case rel => exact ⟨(false && bk), wrap64 (x45 + 1), l7b, l8b ++ ll, _, _, _, _, (by first | rfl | (simp; done) | (simp [*]; done)), (by first | rfl | (simp; done) | (simp [*]; done)), ⟨by have := HY.out; have := HJ.out; have := N2.out; have := OKN.out; rw [step45 HY.out.1 HJ.out.2 (Kd.C_max HR2.out)]; omega⟩, ⟨(by (with_reducible repeat (first | apply NetL.alloc | apply NetL.drewN | apply NetL.drew)); exact HN.out)⟩, ⟨by rw [step45 HY.out.1 HJ.out.2 (Kd.C_max HR2.out)]; have h_ := nvk_step HNV.out HJ.out.1 HJ.out.2; rw [← HKD.out, if_neg C3.out, ← HBK.out] at h_; exact h_⟩, ⟨by rw [step45 HY.out.1 HJ.out.2 (Kd.C_max HR2.out)]; exact Loc.step2 HLC.out HJ.out.1 HJ.out.2 (by rw [← HKD.out]; exact GFA.out) (by rw [← HKD.out]; exact GLA.out) H7.out H8.out⟩⟩
              · as_aux_lemma =>
                  have c5b0 : decide (x45 < ((rd_T44 l0 x16).f2.length : Int)) = false := by rw [← N2.out]; exact decide_eq_false hj
                  have HX6 : Aside0 (x6 = nvk (rd_T44 l0 x16).f0 (NL l0 x16.toNat) (rd_T44 l0 x16).f2 ((rd_T44 l0 x16).f0 == 2)) := ⟨by have h_ := HNV.out; rw [List.drop_eq_nil_of_le (by have := HY.out; have := N2.out; omega)] at h_; exact h_⟩
                  have LE_ := Aside0.mk (Loc.fin OKN.out HI.out.1 HI.out.2 HLC.out)
                  have LB := Aside0.mk (Loc.small OKN.out HI.out.1 HI.out.2 HLC.out)
                  have IN7 := Aside0.mk HLC.out.in7
                  have IN8 := Aside0.mk HLC.out.in8
                  clear hj HLC HNV
                  obtain ⟨fb, hfb⟩ : ∃ r, impl_PNode_isOften.f (rd_T44 l0 x16).f0 (rd_T44 l0 x16).f1 (rd_T44 l0 x16).f2 (rd_T44 l0 x16).f3 = some r := by unfold impl_PNode_isOften.f; split <;> exact ⟨_, rfl⟩
                  have HFB := Aside0.mk hfb
                  clear hfb
                  obtain ⟨ob, hob⟩ : ∃ b_, b_ = ((rd_T44 l0 x16).f3 == 1 || (rd_T44 l0 x16).f3 == 2) := ⟨_, rfl⟩
                  have HOB : Aside0 (impl_PNode_isOptional.f (rd_T44 l0 x16).f0 (rd_T44 l0 x16).f1 (rd_T44 l0 x16).f2 (rd_T44 l0 x16).f3 = some ob) := ⟨by rw [hob]; exact isOptional_val _ _ _ _⟩
                  have HBB : Aside0 (nv (NL l0 x16.toNat) (rd_T44 l0 x16) = (x6 || ob)) := ⟨by unfold nv; rw [← HX6.out, ← hob]⟩
                  clear hob HX6
                  go_upto_if 130 with (first | ((with_reducible refine gate_callee (f := 67) rfl ?_); refine goesL_ (some 130) rfl rfl Try.func67 (by kernel_rfl) rfl #[.agg #[.int .i64 (rd_T44 l0 x16).f0, .string (rd_T44 l0 x16).f1, .slice A2 (rd_T44 l0 x16).f2.length c2, .int .i64 (rd_T44 l0 x16).f3]] rfl (by (try simp only [List.map_toArray, List.map_cons, List.map_nil]); first | done | rfl | (simp only [List.length_drop, List.length_take]; rfl)) ?_; (with_reducible refine (impl_PNode_isOften.calls (rd_T44 l0 x16).f0 (rd_T44 l0 x16).f1 A2 c2 (rd_T44 l0 x16).f2 (rd_T44 l0 x16).f3 _ _ ?side1 HC2.out HFB.out).mono ?_); (case side1 => exact Kd.C_below HR2.out ((by (with_reducible repeat (first | apply NetL.alloc | apply NetL.drewN | apply NetL.drew)); exact HN.out) : NetL _ _ _ _ _ _ _ _ _ _ _ _ _ _ _ _ _ _ _ _ _ _ _).net.bel); rintro e wo ⟨rfl, hb⟩; refine ⟨_, rfl, ?_⟩; have nn_ := Aside0.mk (NetL.below (by (with_reducible repeat (first | apply NetL.alloc | apply NetL.drewN | apply NetL.drew)); exact HN.out) hb); clear hb; clear HN hcz_0 hcz_1 hcz_2 hcz_3 hfz_0 hfz_1 hfz_2 hfz_3; have HN := nn_; clear nn_; have hcz_0 : wo.cell? ⟨gb, 0, none⟩ = some (.int .i64 (rd_T44 l0 x16).f0) := (blk_cell HN.out.gbx 0).trans rfl; have hcz_1 : wo.cell? ⟨gb, 1, none⟩ = some (.string (rd_T44 l0 x16).f1) := (blk_cell HN.out.gbx 1).trans rfl; have hcz_2 : wo.cell? ⟨gb, 2, none⟩ = some (.slice A2 (rd_T44 l0 x16).f2.length c2) := (blk_cell HN.out.gbx 2).trans rfl; have hcz_3 : wo.cell? ⟨gb, 3, none⟩ = some (.int .i64 (rd_T44 l0 x16).f3) := (blk_cell HN.out.gbx 3).trans rfl; have hfz_0 := blk_frozen HN.out.gbx 0; have hfz_1 := blk_frozen HN.out.gbx 1; have hfz_2 := blk_frozen HN.out.gbx 2; have hfz_3 := blk_frozen HN.out.gbx 3))
                  (try simp only [Act.put, List.setIfInBounds_toArray, List.set_cons_zero, List.set_cons_succ])
                  go_cut [7, 8] (fun v7 v8 wc => ∃ (oF' oL' o7' o8' : Nat → Prop), Aside0 (NetL w.heap.size w wc gx #[.slice (some ad1) l0.length c0, vn, vf, vl, (.slice aw ws1.length cw)] vn vf vl (.slice aw ws1.length cw) (NL l0 x16.toNat) fs ls ws1 oF' oL' gb #[.int .i64 (rd_T44 l0 x16).f0, .string (rd_T44 l0 x16).f1, .slice A2 (rd_T44 l0 x16).f2.length c2, .int .i64 (rd_T44 l0 x16).f3] v7 v8 l7 l8 o7' o8'))
                  case first =>
                    cases fb
                    case true =>
                      obtain ⟨gw, cw2, ew, _, _, clw, hgw⟩ := Kd.R_form HN.out.net.rW (by have := HWL.out; omega)
                      injection ew with ea_ en_ ec_
                      subst ea_
                      subst ec_
                      clear en_ hgw
                      obtain ⟨A8, c8, e8⟩ := Kd.R_slice HN.out.r8
                      subst e8
                      obtain ⟨A7, c7, e7⟩ := Kd.R_slice HN.out.r7
                      subst e7
                      go_wp2_with (first | ((with_reducible refine gate_callee (f := 65) rfl ?_); refine goesL_ (some 134) rfl rfl Try.func65 (by kernel_rfl) rfl #[.pointer (some ⟨gx, 0, none⟩), .slice A8 l8.length c8, .slice A7 l7.length c7] rfl (by (try simp only [List.map_toArray, List.map_cons, List.map_nil]); first | done | rfl | (simp only [List.length_drop, List.length_take]; rfl)) ?_; (with_reducible refine (impl_lead.calls gx (.slice (some ad1) l0.length c0) vn vf vl ⟨gw, 0, none⟩ cw ws1 A8 c8 l8 A7 c7 l7 w _ ?le1 ?le2 ?le3 ?le4 ?le5 ?le6 ?le7 ?le8 ?le9 ?leA).mono ?_); (case le1 => exact HN.out.net.bel); (case le2 => exact HN.out.net.box); (case le3 => exact (Kd.R_reads' HN.out.net.rW).2.2); (case le4 => exact HN.out.net.maps); (case le5 => exact HN.out.net.wsb); (case le6 => exact (Kd.R_reads' HN.out.r8).2.2); (case le7 => exact (Kd.R_reads' HN.out.r7).2.2); (case le8 => exact (fun z hz => by have := IN8.out z hz; have := HWL.out; have := HI.out; omega)); (case le9 => have := LB.out; omega); (case leA => have := LB.out; omega); rintro e w5 ⟨rfl, hm, hb, hk⟩; refine ⟨_, rfl, ?_⟩; have nn_ := Aside0.mk (NetL.led HN.out hb hm hk); clear hm hb hk HN; have HN := nn_; clear nn_))
                      go_meet
                      case rel => exact ⟨_, _, _, _, ⟨(by (with_reducible repeat (first | apply NetL.alloc | apply NetL.drewN | apply NetL.drew)); exact HN.out)⟩⟩
                    case false =>
                      go_wp2
                      go_meet
                      case rel => exact ⟨_, _, _, _, ⟨(by (with_reducible repeat (first | apply NetL.alloc | apply NetL.drewN | apply NetL.drew)); exact HN.out)⟩⟩
                  case rest =>
                    clear HN
                    try clear hcz_0 hcz_1 hcz_2 hcz_3 hfz_0 hfz_1 hfz_2 hfz_3
                    obtain ⟨oF4, oL4, o74, o84, HN⟩ := hcut
                    go_upto_region 23 with fail
                    obtain ⟨A7, c7, e7⟩ := Kd.R_slice HN.out.r7
                    subst e7
                    obtain ⟨A8, c8, e8⟩ := Kd.R_slice HN.out.r8
                    subst e8
                    have nn_ := Aside0.mk (NetL.drew HN.out)
                    clear HN
                    have HN := nn_
                    clear nn_
                    have hs_gx1 : wc.drew.cell? ⟨gx, 1, none⟩ = some (vn) := (blk_cell HN.out.net.box 1).trans rfl
                    have hs_gx2 : wc.drew.cell? ⟨gx, 2, none⟩ = some (vf) := (blk_cell HN.out.net.box 2).trans rfl
                    have hs_gx3 : wc.drew.cell? ⟨gx, 3, none⟩ = some (vl) := (blk_cell HN.out.net.box 3).trans rfl
                    have hs_gb0 : wc.drew.cell? ⟨gb, 0, none⟩ = some (.int .i64 (rd_T44 l0 x16).f0) := (blk_cell HN.out.gbx 0).trans rfl
                    have hs_gb1 : wc.drew.cell? ⟨gb, 1, none⟩ = some (.string (rd_T44 l0 x16).f1) := (blk_cell HN.out.gbx 1).trans rfl
                    have hs_gb2 : wc.drew.cell? ⟨gb, 2, none⟩ = some (.slice A2 (rd_T44 l0 x16).f2.length c2) := (blk_cell HN.out.gbx 2).trans rfl
                    have hs_gb3 : wc.drew.cell? ⟨gb, 3, none⟩ = some (.int .i64 (rd_T44 l0 x16).f3) := (blk_cell HN.out.gbx 3).trans rfl
                    refine start_ (n := 37) (S := fun w' => w'.cell? ⟨gx, 1, none⟩ = some (vn) ∧ w'.cell? ⟨gx, 2, none⟩ = some (vf) ∧ w'.cell? ⟨gx, 3, none⟩ = some (vl) ∧ w'.cell? ⟨gb, 0, none⟩ = some (.int .i64 (rd_T44 l0 x16).f0) ∧ w'.cell? ⟨gb, 1, none⟩ = some (.string (rd_T44 l0 x16).f1) ∧ w'.cell? ⟨gb, 2, none⟩ = some (.slice A2 (rd_T44 l0 x16).f2.length c2) ∧ w'.cell? ⟨gb, 3, none⟩ = some (.int .i64 (rd_T44 l0 x16).f3)) (ds := [27, 30, 33, 36]) (bL 37 0) (by kernel_rfl) rfl (by kernel_rfl) ⟨hs_gx1, hs_gx2, hs_gx3, hs_gb0, hs_gb1, hs_gb2, hs_gb3⟩ (fun hHeld => ?_)
                    refine with_tabW impl_netOf.tab23 impl_netOf.bits23 (fun HT_ HW_ => ?_)
                    generalize wc.drew = w12 at HN hs_gx1 hs_gx2 hs_gx3 hs_gb0 hs_gb1 hs_gb2 hs_gb3 hHeld ⊢
                    refine pure_ (i := 0) (N := some 135) (v := ?_) (a' := ?_) (bL 37 1) rfl rfl (any_of HT_.out (by kernel_rfl)) (fun _ _ _ h => h) (Or.inl ⟨by rfl, ?_⟩) ?_ ?_
                    rotate_left
                    ·intro w'
                     go_simp
                     with_reducible rfl
                    rotate_left
                    ·simp only [Act.put, List.setIfInBounds_toArray, List.set_cons_zero, List.set_cons_succ, i64_w, i32_w]
                     rfl
                    refine pure_ (i := 1) (N := some 136) (v := ?_) (a' := ?_) (bL 37 3) rfl rfl (any_of HT_.out (by kernel_rfl)) (fun _ _ _ h => h) (Or.inl ⟨by rfl, ?_⟩) ?_ ?_
                    rotate_left
                    ·intro w'
                     go_simp
                     with_reducible rfl
                    rotate_left
                    ·simp only [Act.put, List.setIfInBounds_toArray, List.set_cons_zero, List.set_cons_succ, i64_w, i32_w]
                     rfl
                    refine pure_ (i := 2) (N := some 137) (v := ?_) (a' := ?_) (bL 37 7) rfl rfl (any_of HT_.out (by kernel_rfl)) (fun _ _ _ h => h) (Or.inl ⟨by rfl, ?_⟩) ?_ ?_
                    rotate_left
                    ·intro w'
                     go_simp
                     with_reducible rfl
                    rotate_left
                    ·simp only [Act.put, List.setIfInBounds_toArray, List.set_cons_zero, List.set_cons_succ, i64_w, i32_w]
                     rfl
                    refine pure_ (i := 3) (N := some 138) (v := ?_) (a' := ?_) (bL 37 15) rfl rfl (any_of HT_.out (by kernel_rfl)) (fun _ _ _ h => h) (Or.inl ⟨by rfl, ?_⟩) ?_ ?_
                    rotate_left
                    ·intro w'
                     go_simp
                     with_reducible rfl
                    rotate_left
                    ·simp only [Act.put, List.setIfInBounds_toArray, List.set_cons_zero, List.set_cons_succ, i64_w, i32_w]
                     rfl
                    refine pure_ (i := 4) (N := some 139) (v := ?_) (a' := ?_) (bL 37 31) rfl rfl (any_of HT_.out (by kernel_rfl)) (fun _ _ _ h => h) (Or.inl ⟨by rfl, ?_⟩) ?_ ?_
                    rotate_left
                    ·intro w'
                     go_simp
                     with_reducible rfl
                    rotate_left
                    ·simp only [Act.put, List.setIfInBounds_toArray, List.set_cons_zero, List.set_cons_succ, i64_w, i32_w]
                     rfl
                    refine pure_ (i := 5) (N := some 140) (v := ?_) (a' := ?_) (bL 37 63) rfl rfl (any_of HT_.out (by kernel_rfl)) (fun _ _ _ h => h) (Or.inl ⟨by rfl, ?_⟩) ?_ ?_
                    rotate_left
                    ·intro w'
                     go_simp
                     with_reducible rfl
                    rotate_left
                    ·simp only [Act.put, List.setIfInBounds_toArray, List.set_cons_zero, List.set_cons_succ, i64_w, i32_w]
                     rfl
                    refine take_ (i := 6) (N := some 141) (v := ?_) (a' := ?_) (bL 37 127) rfl rfl (take_ofW HT_.out HW_.out (by kernel_rfl)) (fun _ _ _ h => h) (Or.inl ⟨by rfl, ?_⟩) hHeld ?_ ?_
                    rotate_left
                    ·rintro w' ⟨s0, s1, s2, s3, s4, s5, s6⟩
                     go_simp
                     with_reducible rfl
                    rotate_left
                    ·simp only [Act.put, List.setIfInBounds_toArray, List.set_cons_zero, List.set_cons_succ, i64_w, i32_w]
                     rfl
                    refine pure_ (i := 7) (N := some 142) (v := ?_) (a' := ?_) (bL 37 255) rfl rfl (any_of HT_.out (by kernel_rfl)) (fun _ _ _ h => h) (Or.inl ⟨by rfl, ?_⟩) ?_ ?_
                    rotate_left
                    ·intro w'
                     go_simp
                     with_reducible rfl
                    rotate_left
                    ·simp only [Act.put, List.setIfInBounds_toArray, List.set_cons_zero, List.set_cons_succ, i64_w, i32_w]
                     rfl
                    refine pure_ (i := 8) (N := some 143) (v := ?_) (a' := ?_) (bL 37 511) rfl rfl (any_of HT_.out (by kernel_rfl)) (fun _ _ _ h => h) (Or.inl ⟨by rfl, ?_⟩) ?_ ?_
                    rotate_left
                    ·intro w'
                     go_simp
                     with_reducible rfl
                    rotate_left
                    ·simp only [Act.put, List.setIfInBounds_toArray, List.set_cons_zero, List.set_cons_succ, i64_w, i32_w]
                     rfl
                    refine pure_ (i := 14) (N := some 149) (v := ?_) (a' := ?_) (bL 37 16895) rfl rfl (any_of HT_.out (by kernel_rfl)) (fun _ _ _ h => h) (Or.inl ⟨by rfl, ?_⟩) ?_ ?_
                    rotate_left
                    ·intro w'
                     go_simp
                     with_reducible rfl
                    rotate_left
                    ·simp only [Act.put, List.setIfInBounds_toArray, List.set_cons_zero, List.set_cons_succ, i64_w, i32_w]
                     rfl
                    refine pure_ (i := 15) (N := some 150) (v := ?_) (a' := ?_) (bL 37 49663) rfl rfl (any_of HT_.out (by kernel_rfl)) (fun _ _ _ h => h) (Or.inl ⟨by rfl, ?_⟩) ?_ ?_
                    rotate_left
                    ·intro w'
                     go_simp
                     with_reducible rfl
                    rotate_left
                    ·simp only [Act.put, List.setIfInBounds_toArray, List.set_cons_zero, List.set_cons_succ, i64_w, i32_w]
                     rfl
                    refine pure_ (i := 16) (N := some 151) (v := ?_) (a' := ?_) (bL 37 115199) rfl rfl (any_of HT_.out (by kernel_rfl)) (fun _ _ _ h => h) (Or.inl ⟨by rfl, ?_⟩) ?_ ?_
                    rotate_left
                    ·intro w'
                     go_simp
                     with_reducible rfl
                    rotate_left
                    ·simp only [Act.put, List.setIfInBounds_toArray, List.set_cons_zero, List.set_cons_succ, i64_w, i32_w]
                     rfl
                    refine take_ (i := 17) (N := some 152) (v := ?_) (a' := ?_) (bL 37 246271) rfl rfl (take_ofW HT_.out HW_.out (by kernel_rfl)) (fun _ _ _ h => h) (Or.inl ⟨by rfl, ?_⟩) hHeld ?_ ?_
                    rotate_left
                    ·rintro w' ⟨s0, s1, s2, s3, s4, s5, s6⟩
                     go_simp
                     with_reducible rfl
                    rotate_left
                    ·simp only [Act.put, List.setIfInBounds_toArray, List.set_cons_zero, List.set_cons_succ, i64_w, i32_w]
                     rfl
                    refine pure_ (i := 18) (N := some 153) (v := ?_) (a' := ?_) (bL 37 508415) rfl rfl (any_of HT_.out (by kernel_rfl)) (fun _ _ _ h => h) (Or.inl ⟨by rfl, ?_⟩) ?_ ?_
                    rotate_left
                    ·intro w'
                     go_simp
                     with_reducible rfl
                    rotate_left
                    ·simp only [Act.put, List.setIfInBounds_toArray, List.set_cons_zero, List.set_cons_succ, i64_w, i32_w]
                     rfl
                    refine pure_ (i := 21) (N := some 156) (v := ?_) (a' := ?_) (bL 37 2605567) rfl rfl (any_of HT_.out (by kernel_rfl)) (fun _ _ _ h => h) (Or.inl ⟨by rfl, ?_⟩) ?_ ?_
                    rotate_left
                    ·intro w'
                     go_simp
                     with_reducible rfl
                    rotate_left
                    ·simp only [Act.put, List.setIfInBounds_toArray, List.set_cons_zero, List.set_cons_succ, i64_w, i32_w]
                     rfl
                    refine pure_ (i := 22) (N := some 157) (v := ?_) (a' := ?_) (bL 37 6799871) rfl rfl (any_of HT_.out (by kernel_rfl)) (fun _ _ _ h => h) (Or.inl ⟨by rfl, ?_⟩) ?_ ?_
                    rotate_left
                    ·intro w'
                     go_simp
                     with_reducible rfl
                    rotate_left
                    ·simp only [Act.put, List.setIfInBounds_toArray, List.set_cons_zero, List.set_cons_succ, i64_w, i32_w]
                     rfl
                    refine pure_ (i := 23) (N := some 158) (v := ?_) (a' := ?_) (bL 37 15188479) rfl rfl (any_of HT_.out (by kernel_rfl)) (fun _ _ _ h => h) (Or.inl ⟨by rfl, ?_⟩) ?_ ?_
                    rotate_left
                    ·intro w'
                     go_simp
                     with_reducible rfl
                    rotate_left
                    ·simp only [Act.put, List.setIfInBounds_toArray, List.set_cons_zero, List.set_cons_succ, i64_w, i32_w]
                     rfl
                    refine take_ (i := 24) (N := some 159) (v := ?_) (a' := ?_) (bL 37 31965695) rfl rfl (take_ofW HT_.out HW_.out (by kernel_rfl)) (fun _ _ _ h => h) (Or.inl ⟨by rfl, ?_⟩) hHeld ?_ ?_
                    rotate_left
                    ·rintro w' ⟨s0, s1, s2, s3, s4, s5, s6⟩
                     go_simp
                     with_reducible rfl
                    rotate_left
                    ·simp only [Act.put, List.setIfInBounds_toArray, List.set_cons_zero, List.set_cons_succ, i64_w, i32_w]
                     rfl
                    refine pure_ (i := 25) (N := some 160) (v := ?_) (a' := ?_) (bL 37 65520127) rfl rfl (any_of HT_.out (by kernel_rfl)) (fun _ _ _ h => h) (Or.inl ⟨by rfl, ?_⟩) ?_ ?_
                    rotate_left
                    ·intro w'
                     go_simp
                     with_reducible rfl
                    rotate_left
                    ·simp only [Act.put, List.setIfInBounds_toArray, List.set_cons_zero, List.set_cons_succ, i64_w, i32_w]
                     rfl
                    clear hs_gx1 hs_gx2 hs_gx3 hs_gb0 hs_gb1 hs_gb2 hs_gb3
                    refine join_ (σ := Value × Value × Nat × Value × Nat × Value × Nat × Value) 9 (bL 37 268435455) (fun s_ => [(144, s_.1), (145, s_.2.1), (146, (.bool (x6 || ob))), (147, (.slice (some ⟨s_.2.2.1, 0, none⟩) 1 1 : Value)), (148, s_.2.2.2.1), (154, (.slice (some ⟨s_.2.2.2.2.1, 0, none⟩) 1 1 : Value)), (155, s_.2.2.2.2.2.1), (161, (.slice (some ⟨s_.2.2.2.2.2.2.1, 0, none⟩) 1 1 : Value)), (162, s_.2.2.2.2.2.2.2)]) (fun s_ w' => (∃ (oF' oL' : Nat → Prop), NetH w.heap.size w w' gx #[.slice (some ad1) l0.length c0, vn, vf, vl, (.slice aw ws1.length cw)] s_.2.2.2.1 s_.2.2.2.2.2.1 s_.2.2.2.2.2.2.2 (.slice aw ws1.length cw) (NL l0 x16.toNat ++ [(x6 || ob)]) (fs ++ [l7]) (ls ++ [l8]) ws1 oF' oL')) ?_ (fun hS511 => ?_)
                    ·as_aux_lemma =>
                      rintro ⟨v144, v145, b147, v148, b154, v155, b161, v162⟩ wS ⟨_, _, hN⟩
                      refine norm_ (a' := ?_) ?_ ?_
                      rotate_left
                      ·simp only [putAll, Act.put, List.setIfInBounds_toArray, List.set_cons_zero, List.set_cons_succ]
                       rfl
                      obtain ⟨E1, d1, e1_⟩ := Kd.R_slice hN.rN
                      subst e1_
                      obtain ⟨E2, d2, e2_⟩ := Kd.R_slice hN.rF
                      subst e2_
                      obtain ⟨E3, d3, e3_⟩ := Kd.R_slice hN.rL
                      subst e3_
                      have hn := hN
                      refine pure_ (i := 28) (N := some 163) (v := ?_) (a' := ?_) (bL 37 536870911) rfl rfl (any_of HT_.out (by kernel_rfl)) (fun _ _ _ h => h) (Or.inl ⟨by rfl, ?_⟩) ?_ ?_
                      rotate_left
                      ·intro w'
                       go_simp
                       with_reducible rfl
                      rotate_left
                      ·simp only [Act.put, List.setIfInBounds_toArray, List.set_cons_zero, List.set_cons_succ, i64_w, i32_w]
                       rfl
                      refine pure_ (i := 29) (N := some 164) (v := ?_) (a' := ?_) (bL 37 1073741823) rfl rfl (any_of HT_.out (by kernel_rfl)) (fun _ _ _ h => h) (Or.inl ⟨by rfl, ?_⟩) ?_ ?_
                      rotate_left
                      ·intro w'
                       go_simp
                       with_reducible rfl
                      rotate_left
                      ·simp only [Act.put, List.setIfInBounds_toArray, List.set_cons_zero, List.set_cons_succ, i64_w, i32_w]
                       rfl
                      have hcx_1 : wS.cell? ⟨gx, 1, none⟩ = some vn := (blk_cell hn.box 1).trans rfl
                      have hfx_1 := blk_frozen hn.box 1
                      refine last_ (i := 30) (N := none) (bL 37 2147483647) rfl rfl (one_of HT_.out (by kernel_rfl)) (by decide) (fun K hK => ?_)
                      refine skip_ (w1 := wS.setCell ⟨gx, 1, none⟩ (.slice E1 (NL l0 x16.toNat ++ [(x6 || ob)]).length d1 : Value)) (by rfl) rfl ?_ ?_
                      · first | (go_simp; done) | (go_simp; rfl)
                      refine hK.out _ _ ?_
                      have nn_ := NetH.put hn 1 (.slice E1 (NL l0 x16.toNat ++ [(x6 || ob)]).length d1 : Value)
                      clear hn hcx_1 hfx_1 hK K
                      generalize wS.setCell ⟨gx, 1, none⟩ (.slice E1 (NL l0 x16.toNat ++ [(x6 || ob)]).length d1 : Value) = wT1 at nn_ ⊢
                      have hn := nn_
                      clear nn_
                      refine pure_ (i := 31) (N := some 165) (v := ?_) (a' := ?_) (bL 37 4294967295) rfl rfl (any_of HT_.out (by kernel_rfl)) (fun _ _ _ h => h) (Or.inl ⟨by rfl, ?_⟩) ?_ ?_
                      rotate_left
                      ·intro w'
                       go_simp
                       with_reducible rfl
                      rotate_left
                      ·simp only [Act.put, List.setIfInBounds_toArray, List.set_cons_zero, List.set_cons_succ, i64_w, i32_w]
                       rfl
                      refine pure_ (i := 32) (N := some 166) (v := ?_) (a' := ?_) (bL 37 8589934591) rfl rfl (any_of HT_.out (by kernel_rfl)) (fun _ _ _ h => h) (Or.inl ⟨by rfl, ?_⟩) ?_ ?_
                      rotate_left
                      ·intro w'
                       go_simp
                       with_reducible rfl
                      rotate_left
                      ·simp only [Act.put, List.setIfInBounds_toArray, List.set_cons_zero, List.set_cons_succ, i64_w, i32_w]
                       rfl
                      have hcx_2 : wT1.cell? ⟨gx, 2, none⟩ = some vf := (blk_cell hn.box 2).trans rfl
                      have hfx_2 := blk_frozen hn.box 2
                      refine last_ (i := 33) (N := none) (bL 37 17179869183) rfl rfl (one_of HT_.out (by kernel_rfl)) (by decide) (fun K hK => ?_)
                      refine skip_ (w1 := wT1.setCell ⟨gx, 2, none⟩ (.slice E2 (fs ++ [l7]).length d2 : Value)) (by rfl) rfl ?_ ?_
                      · first | (go_simp; done) | (go_simp; rfl)
                      refine hK.out _ _ ?_
                      have nn_ := NetH.put hn 2 (.slice E2 (fs ++ [l7]).length d2 : Value)
                      clear hn hcx_2 hfx_2 hK K
                      generalize wT1.setCell ⟨gx, 2, none⟩ (.slice E2 (fs ++ [l7]).length d2 : Value) = wT2 at nn_ ⊢
                      have hn := nn_
                      clear nn_
                      refine pure_ (i := 34) (N := some 167) (v := ?_) (a' := ?_) (bL 37 34359738367) rfl rfl (any_of HT_.out (by kernel_rfl)) (fun _ _ _ h => h) (Or.inl ⟨by rfl, ?_⟩) ?_ ?_
                      rotate_left
                      ·intro w'
                       go_simp
                       with_reducible rfl
                      rotate_left
                      ·simp only [Act.put, List.setIfInBounds_toArray, List.set_cons_zero, List.set_cons_succ, i64_w, i32_w]
                       rfl
                      refine pure_ (i := 35) (N := some 168) (v := ?_) (a' := ?_) (bL 37 68719476735) rfl rfl (any_of HT_.out (by kernel_rfl)) (fun _ _ _ h => h) (Or.inl ⟨by rfl, ?_⟩) ?_ ?_
                      rotate_left
                      ·intro w'
                       go_simp
                       with_reducible rfl
                      rotate_left
                      ·simp only [Act.put, List.setIfInBounds_toArray, List.set_cons_zero, List.set_cons_succ, i64_w, i32_w]
                       rfl
                      have hcx_3 : wT2.cell? ⟨gx, 3, none⟩ = some vl := (blk_cell hn.box 3).trans rfl
                      have hfx_3 := blk_frozen hn.box 3
                      refine last_ (i := 36) (N := none) (bL 37 137438953471) rfl rfl (one_of HT_.out (by kernel_rfl)) (by decide) (fun K hK => ?_)
                      refine skip_ (w1 := wT2.setCell ⟨gx, 3, none⟩ (.slice E3 (ls ++ [l8]).length d3 : Value)) (by rfl) rfl ?_ ?_
                      · first | (go_simp; done) | (go_simp; rfl)
                      refine hK.out _ _ ?_
                      have nn_ := NetH.put hn 3 (.slice E3 (ls ++ [l8]).length d3 : Value)
                      clear hn hcx_3 hfx_3 hK K
                      generalize wT2.setCell ⟨gx, 3, none⟩ (.slice E3 (ls ++ [l8]).length d3 : Value) = wT3 at nn_ ⊢
                      have hn := nn_
                      clear nn_
                      refine done_ (done_of HT_.out (by kernel_rfl)) ?_
                      clear HN
                      have HN := Aside0.mk hn
                      clear hn hN
                      go_wp2
                      go_roundg k1
                      case measure => omega
                      case rel =>
                       have hw_ : wrap64 (x16 + 1) = x16 + 1 := (by have h1_ := HI.out; have h2_ := OKN.out.len; unfold wrap64; omega)
                       exact ⟨wrap64 (x16 + 1), _, _, _, (.slice aw ws1.length cw), fs ++ [l7], ls ++ [l8], ws1, _, _, (by first | rfl | (simp; done) | (simp [*]; done)), ⟨by rw [hw_]; have := HX.out; have := HI.out; omega⟩, ⟨by rw [hw_, NL_step _ _ HI.out.1, HBB.out]; exact (by (with_reducible repeat (first | apply NetH.alloc | apply NetH.drewN | apply NetH.drew)); exact HN.out)⟩, ⟨by rw [hw_]; exact ⟨Good.step HG.out.1 HI.out.1 LE_.out.1 IN7.out, Good.step HG.out.2.1 HI.out.1 LE_.out.2 IN8.out, by rw [HWL.out]; have := HI.out; omega⟩⟩⟩
                    refine join_ (σ := Value × Value × Nat × Value × Nat × Value × Nat) 10 (bL 37 134217727) (fun s_ => [(144, s_.1), (145, s_.2.1), (146, (.bool (x6 || ob))), (147, (.slice (some ⟨s_.2.2.1, 0, none⟩) 1 1 : Value)), (148, s_.2.2.2.1), (154, (.slice (some ⟨s_.2.2.2.2.1, 0, none⟩) 1 1 : Value)), (155, s_.2.2.2.2.2.1), (161, (.slice (some ⟨s_.2.2.2.2.2.2, 0, none⟩) 1 1 : Value))]) (fun s_ w' => (∃ (oF' oL' o7' o8' : Nat → Prop), NetL w.heap.size w w' gx #[.slice (some ad1) l0.length c0, vn, vf, vl, (.slice aw ws1.length cw)] s_.2.2.2.1 s_.2.2.2.2.2.1 vl (.slice aw ws1.length cw) (NL l0 x16.toNat ++ [(x6 || ob)]) (fs ++ [l7]) ls ws1 oF' oL' gb #[.int .i64 (rd_T44 l0 x16).f0, .string (rd_T44 l0 x16).f1, .slice A2 (rd_T44 l0 x16).f2.length c2, .int .i64 (rd_T44 l0 x16).f3] (.slice none 0 0) (.slice A8 l8.length c8) [] l8 o7' o8') ∧ w'.heap[(s_.2.2.2.2.2.2 : Nat)]? = some (.cells #[(.slice A8 l8.length c8)] 41 (0, 0))) ?_ (fun hS411 => ?_)
                    ·as_aux_lemma =>
                      rintro ⟨v144, v145, b147, v148, b154, v155, b161⟩ wS ⟨⟨_, _, _, _, hN⟩, hF⟩
                      refine norm_ (a' := ?_) ?_ ?_
                      rotate_left
                      ·simp only [putAll, Act.put, List.setIfInBounds_toArray, List.set_cons_zero, List.set_cons_succ]
                       rfl
                      refine last_ (i := 27) (N := some 162) (bL 37 268435455) rfl rfl (one_of HT_.out (by kernel_rfl)) (by decide) (fun K hK => ?_)
                      refine NetL.pushL_step hN (by rfl) (.tmp 159) (.tmp 161) 74 24 b161 hF rfl Try.underlying74 info41x (by decide) rfl rfl (by have := HG.out.2.1.1; have := HI.out; have := OKN.out.len; omega) ?_
                      intro v162 wE nN hg
                      refine hK.out _ _ ?_
                      exact norm_ (by first | (simp only [putAll, Act.put, List.setIfInBounds_toArray, List.set_cons_zero, List.set_cons_succ]; done) | (simp only [putAll, Act.put, List.setIfInBounds_toArray, List.set_cons_zero, List.set_cons_succ]; rfl)) (hS511 (v144, v145, b147, v148, b154, v155, b161, v162) _ ⟨_, _, nN⟩)
                    refine join_ (σ := Value × Value × Nat × Value × Nat × Value) 11 (bL 37 67108863) (fun s_ => [(144, s_.1), (145, s_.2.1), (146, (.bool (x6 || ob))), (147, (.slice (some ⟨s_.2.2.1, 0, none⟩) 1 1 : Value)), (148, s_.2.2.2.1), (154, (.slice (some ⟨s_.2.2.2.2.1, 0, none⟩) 1 1 : Value)), (155, s_.2.2.2.2.2)]) (fun s_ w' => (∃ (oF' oL' o7' o8' : Nat → Prop), NetL w.heap.size w w' gx #[.slice (some ad1) l0.length c0, vn, vf, vl, (.slice aw ws1.length cw)] s_.2.2.2.1 s_.2.2.2.2.2 vl (.slice aw ws1.length cw) (NL l0 x16.toNat ++ [(x6 || ob)]) (fs ++ [l7]) ls ws1 oF' oL' gb #[.int .i64 (rd_T44 l0 x16).f0, .string (rd_T44 l0 x16).f1, .slice A2 (rd_T44 l0 x16).f2.length c2, .int .i64 (rd_T44 l0 x16).f3] (.slice none 0 0) (.slice A8 l8.length c8) [] l8 o7' o8')) ?_ (fun hS410 => ?_)
                    ·as_aux_lemma =>
                      rintro ⟨v144, v145, b147, v148, b154, v155⟩ wS ⟨_, _, _, _, hN⟩
                      refine norm_ (a' := ?_) ?_ ?_
                      rotate_left
                      ·simp only [putAll, Act.put, List.setIfInBounds_toArray, List.set_cons_zero, List.set_cons_succ]
                       rfl
                      refine one_ (i := 26) (N := some 161) (bL 37 134217727) rfl rfl (one_of HT_.out (by kernel_rfl)) (by decide) (fun K hK => ?_)
                      refine lit1_step (v := (.slice A8 l8.length c8)) (t := 41) (by rfl) ?_ ?_
                      · first | (go_simp; done) | (go_simp; rfl)
                      intro b161 wE hnew hc hb
                      refine hK.out _ _ (NetL.cells (NetL.below hN hb)) (fun hHeld2 => ?_)
                      exact norm_ (by first | (simp only [putAll, Act.put, List.setIfInBounds_toArray, List.set_cons_zero, List.set_cons_succ]; done) | (simp only [putAll, Act.put, List.setIfInBounds_toArray, List.set_cons_zero, List.set_cons_succ]; rfl)) (hS411 (v144, v145, b147, v148, b154, v155, b161) _ ⟨⟨_, _, _, _, (NetL.below hN hb)⟩, hc⟩)
                    refine join_ (σ := Value × Value × Nat × Value × Nat × Nat) 11 (bL 37 133169151) (fun s_ => [(144, s_.1), (145, s_.2.1), (146, (.bool (x6 || ob))), (147, (.slice (some ⟨s_.2.2.1, 0, none⟩) 1 1 : Value)), (148, s_.2.2.2.1), (154, (.slice (some ⟨s_.2.2.2.2.1, 0, none⟩) 1 1 : Value)), (161, (.slice (some ⟨s_.2.2.2.2.2, 0, none⟩) 1 1 : Value))]) (fun s_ w' => NetL w.heap.size w w' gx #[.slice (some ad1) l0.length c0, vn, vf, vl, (.slice aw ws1.length cw)] s_.2.2.2.1 vf vl (.slice aw ws1.length cw) (NL l0 x16.toNat ++ [(x6 || ob)]) fs ls ws1 oF4 oL4 gb #[.int .i64 (rd_T44 l0 x16).f0, .string (rd_T44 l0 x16).f1, .slice A2 (rd_T44 l0 x16).f2.length c2, .int .i64 (rd_T44 l0 x16).f3] (.slice A7 l7.length c7) (.slice A8 l8.length c8) l7 l8 o74 o84 ∧ w'.heap[(s_.2.2.2.2.1 : Nat)]? = some (.cells #[(.slice A7 l7.length c7)] 41 (0, 0)) ∧ w'.heap[(s_.2.2.2.2.2 : Nat)]? = some (.cells #[(.slice A8 l8.length c8)] 41 (0, 0)) ∧ some (s_.2.2.2.2.2 : Nat) ≠ vf.ownBlock) ?_ (fun hS311 => ?_)
                    ·as_aux_lemma =>
                      rintro ⟨v144, v145, b147, v148, b154, b161⟩ wS ⟨hN, hD, hF, hFn⟩
                      refine norm_ (a' := ?_) ?_ ?_
                      rotate_left
                      ·simp only [putAll, Act.put, List.setIfInBounds_toArray, List.set_cons_zero, List.set_cons_succ]
                       rfl
                      refine one_ (i := 20) (N := some 155) (bL 37 134217727) rfl rfl (one_of HT_.out (by kernel_rfl)) (by decide) (fun K hK => ?_)
                      refine NetL.pushF_step hN (by rfl) (.tmp 152) (.tmp 154) 74 24 b154 hD rfl Try.underlying74 info41x (by decide) rfl rfl (by have := HG.out.1.1; have := HI.out; have := OKN.out.len; omega) ?_
                      intro v155 wE nN hg
                      refine hK.out _ _ (NetL.cells nN) (fun hHeld2 => ?_)
                      exact norm_ (by first | (simp only [putAll, Act.put, List.setIfInBounds_toArray, List.set_cons_zero, List.set_cons_succ]; done) | (simp only [putAll, Act.put, List.setIfInBounds_toArray, List.set_cons_zero, List.set_cons_succ]; rfl)) (hS411 (v144, v145, b147, v148, b154, v155, b161) _ ⟨⟨_, _, _, _, nN⟩, (blk_grown hF hg hFn)⟩)
                    refine join_ (σ := Value × Value × Nat × Value × Nat) 12 (bL 37 66060287) (fun s_ => [(144, s_.1), (145, s_.2.1), (146, (.bool (x6 || ob))), (147, (.slice (some ⟨s_.2.2.1, 0, none⟩) 1 1 : Value)), (148, s_.2.2.2.1), (154, (.slice (some ⟨s_.2.2.2.2, 0, none⟩) 1 1 : Value))]) (fun s_ w' => NetL w.heap.size w w' gx #[.slice (some ad1) l0.length c0, vn, vf, vl, (.slice aw ws1.length cw)] s_.2.2.2.1 vf vl (.slice aw ws1.length cw) (NL l0 x16.toNat ++ [(x6 || ob)]) fs ls ws1 oF4 oL4 gb #[.int .i64 (rd_T44 l0 x16).f0, .string (rd_T44 l0 x16).f1, .slice A2 (rd_T44 l0 x16).f2.length c2, .int .i64 (rd_T44 l0 x16).f3] (.slice A7 l7.length c7) (.slice A8 l8.length c8) l7 l8 o74 o84 ∧ w'.heap[(s_.2.2.2.2 : Nat)]? = some (.cells #[(.slice A7 l7.length c7)] 41 (0, 0))) ?_ (fun hS310 => ?_)
                    ·as_aux_lemma =>
                      rintro ⟨v144, v145, b147, v148, b154⟩ wS ⟨hN, hD⟩
                      refine norm_ (a' := ?_) ?_ ?_
                      rotate_left
                      ·simp only [putAll, Act.put, List.setIfInBounds_toArray, List.set_cons_zero, List.set_cons_succ]
                       rfl
                      refine two_ (i := 20) (j := 26) (Ni := some 155) (Nj := some 161) (bL 37 67108863) (bL 37 133169151) rfl rfl rfl rfl (two_of HT_.out (by kernel_rfl)) (by decide) (by decide) (fun K hK => ?_) (fun K hK => ?_)
                      ·skip
                       refine NetL.pushF_step hN (by rfl) (.tmp 152) (.tmp 154) 74 24 b154 hD rfl Try.underlying74 info41x (by decide) rfl rfl (by have := HG.out.1.1; have := HI.out; have := OKN.out.len; omega) ?_
                       intro v155 wE nN hg
                       refine hK.out _ _ (NetL.cells nN) (fun hHeld2 => ?_)
                       exact norm_ (by first | (simp only [putAll, Act.put, List.setIfInBounds_toArray, List.set_cons_zero, List.set_cons_succ]; done) | (simp only [putAll, Act.put, List.setIfInBounds_toArray, List.set_cons_zero, List.set_cons_succ]; rfl)) (hS410 (v144, v145, b147, v148, b154, v155) _ ⟨_, _, _, _, nN⟩)
                      ·skip
                       refine lit1_step (v := (.slice A8 l8.length c8)) (t := 41) (by rfl) ?_ ?_
                       · first | (go_simp; done) | (go_simp; rfl)
                       intro b161 wE hnew hc hb
                       refine hK.out _ _ (NetL.cells (NetL.below hN hb)) (fun hHeld2 => ?_)
                       exact norm_ (by first | (simp only [putAll, Act.put, List.setIfInBounds_toArray, List.set_cons_zero, List.set_cons_succ]; done) | (simp only [putAll, Act.put, List.setIfInBounds_toArray, List.set_cons_zero, List.set_cons_succ]; rfl)) (hS311 (v144, v145, b147, v148, b154, b161) _ ⟨(NetL.below hN hb), (blk_below hD hb), hc, (fun he => absurd (Kd.R_lt hN.net.rF _ he.symm) (by rw [hnew]; exact Nat.lt_irrefl _))⟩)
                    refine join_ (σ := Value × Value × Nat × Value × Nat) 12 (bL 37 132644863) (fun s_ => [(144, s_.1), (145, s_.2.1), (146, (.bool (x6 || ob))), (147, (.slice (some ⟨s_.2.2.1, 0, none⟩) 1 1 : Value)), (148, s_.2.2.2.1), (161, (.slice (some ⟨s_.2.2.2.2, 0, none⟩) 1 1 : Value))]) (fun s_ w' => NetL w.heap.size w w' gx #[.slice (some ad1) l0.length c0, vn, vf, vl, (.slice aw ws1.length cw)] s_.2.2.2.1 vf vl (.slice aw ws1.length cw) (NL l0 x16.toNat ++ [(x6 || ob)]) fs ls ws1 oF4 oL4 gb #[.int .i64 (rd_T44 l0 x16).f0, .string (rd_T44 l0 x16).f1, .slice A2 (rd_T44 l0 x16).f2.length c2, .int .i64 (rd_T44 l0 x16).f3] (.slice A7 l7.length c7) (.slice A8 l8.length c8) l7 l8 o74 o84 ∧ w'.heap[(s_.2.2.2.2 : Nat)]? = some (.cells #[(.slice A8 l8.length c8)] 41 (0, 0)) ∧ some (s_.2.2.2.2 : Nat) ≠ vf.ownBlock) ?_ (fun hS301 => ?_)
                    ·as_aux_lemma =>
                      rintro ⟨v144, v145, b147, v148, b161⟩ wS ⟨hN, hF, hFn⟩
                      refine norm_ (a' := ?_) ?_ ?_
                      rotate_left
                      ·simp only [putAll, Act.put, List.setIfInBounds_toArray, List.set_cons_zero, List.set_cons_succ]
                       rfl
                      refine one_ (i := 19) (N := some 154) (bL 37 133169151) rfl rfl (one_of HT_.out (by kernel_rfl)) (by decide) (fun K hK => ?_)
                      refine lit1_step (v := (.slice A7 l7.length c7)) (t := 41) (by rfl) ?_ ?_
                      · first | (go_simp; done) | (go_simp; rfl)
                      intro b154 wE hnew hc hb
                      refine hK.out _ _ (NetL.cells (NetL.below hN hb)) (fun hHeld2 => ?_)
                      exact norm_ (by first | (simp only [putAll, Act.put, List.setIfInBounds_toArray, List.set_cons_zero, List.set_cons_succ]; done) | (simp only [putAll, Act.put, List.setIfInBounds_toArray, List.set_cons_zero, List.set_cons_succ]; rfl)) (hS311 (v144, v145, b147, v148, b154, b161) _ ⟨(NetL.below hN hb), hc, (blk_below hF hb), hFn⟩)
                    refine join_ (σ := Value × Value × Nat × Value) 13 (bL 37 65535999) (fun s_ => [(144, s_.1), (145, s_.2.1), (146, (.bool (x6 || ob))), (147, (.slice (some ⟨s_.2.2.1, 0, none⟩) 1 1 : Value)), (148, s_.2.2.2)]) (fun s_ w' => NetL w.heap.size w w' gx #[.slice (some ad1) l0.length c0, vn, vf, vl, (.slice aw ws1.length cw)] s_.2.2.2 vf vl (.slice aw ws1.length cw) (NL l0 x16.toNat ++ [(x6 || ob)]) fs ls ws1 oF4 oL4 gb #[.int .i64 (rd_T44 l0 x16).f0, .string (rd_T44 l0 x16).f1, .slice A2 (rd_T44 l0 x16).f2.length c2, .int .i64 (rd_T44 l0 x16).f3] (.slice A7 l7.length c7) (.slice A8 l8.length c8) l7 l8 o74 o84) ?_ (fun hS300 => ?_)
                    ·as_aux_lemma =>
                      rintro ⟨v144, v145, b147, v148⟩ wS hN
                      refine norm_ (a' := ?_) ?_ ?_
                      rotate_left
                      ·simp only [putAll, Act.put, List.setIfInBounds_toArray, List.set_cons_zero, List.set_cons_succ]
                       rfl
                      refine two_ (i := 19) (j := 26) (Ni := some 154) (Nj := some 161) (bL 37 66060287) (bL 37 132644863) rfl rfl rfl rfl (two_of HT_.out (by kernel_rfl)) (by decide) (by decide) (fun K hK => ?_) (fun K hK => ?_)
                      ·skip
                       refine lit1_step (v := (.slice A7 l7.length c7)) (t := 41) (by rfl) ?_ ?_
                       · first | (go_simp; done) | (go_simp; rfl)
                       intro b154 wE hnew hc hb
                       refine hK.out _ _ (NetL.cells (NetL.below hN hb)) (fun hHeld2 => ?_)
                       exact norm_ (by first | (simp only [putAll, Act.put, List.setIfInBounds_toArray, List.set_cons_zero, List.set_cons_succ]; done) | (simp only [putAll, Act.put, List.setIfInBounds_toArray, List.set_cons_zero, List.set_cons_succ]; rfl)) (hS310 (v144, v145, b147, v148, b154) _ ⟨(NetL.below hN hb), hc⟩)
                      ·skip
                       refine lit1_step (v := (.slice A8 l8.length c8)) (t := 41) (by rfl) ?_ ?_
                       · first | (go_simp; done) | (go_simp; rfl)
                       intro b161 wE hnew hc hb
                       refine hK.out _ _ (NetL.cells (NetL.below hN hb)) (fun hHeld2 => ?_)
                       exact norm_ (by first | (simp only [putAll, Act.put, List.setIfInBounds_toArray, List.set_cons_zero, List.set_cons_succ]; done) | (simp only [putAll, Act.put, List.setIfInBounds_toArray, List.set_cons_zero, List.set_cons_succ]; rfl)) (hS301 (v144, v145, b147, v148, b161) _ ⟨(NetL.below hN hb), hc, (fun he => absurd (Kd.R_lt hN.net.rF _ he.symm) (by rw [hnew]; exact Nat.lt_irrefl _))⟩)
                    refine join_ (σ := Value × Value × Nat × Nat × Nat) 12 (bL 37 133160959) (fun s_ => [(144, s_.1), (145, s_.2.1), (146, (.bool (x6 || ob))), (147, (.slice (some ⟨s_.2.2.1, 0, none⟩) 1 1 : Value)), (154, (.slice (some ⟨s_.2.2.2.1, 0, none⟩) 1 1 : Value)), (161, (.slice (some ⟨s_.2.2.2.2, 0, none⟩) 1 1 : Value))]) (fun s_ w' => NetL w.heap.size w w' gx #[.slice (some ad1) l0.length c0, vn, vf, vl, (.slice aw ws1.length cw)] vn vf vl (.slice aw ws1.length cw) (NL l0 x16.toNat) fs ls ws1 oF4 oL4 gb #[.int .i64 (rd_T44 l0 x16).f0, .string (rd_T44 l0 x16).f1, .slice A2 (rd_T44 l0 x16).f2.length c2, .int .i64 (rd_T44 l0 x16).f3] (.slice A7 l7.length c7) (.slice A8 l8.length c8) l7 l8 o74 o84 ∧ w'.heap[(s_.2.2.1 : Nat)]? = some (.cells #[.bool (x6 || ob)] 4 (0, 0)) ∧ w'.heap[(s_.2.2.2.1 : Nat)]? = some (.cells #[(.slice A7 l7.length c7)] 41 (0, 0)) ∧ w'.heap[(s_.2.2.2.2 : Nat)]? = some (.cells #[(.slice A8 l8.length c8)] 41 (0, 0)) ∧ some (s_.2.2.2.2 : Nat) ≠ vf.ownBlock) ?_ (fun hS211 => ?_)
                    ·as_aux_lemma =>
                      rintro ⟨v144, v145, b147, b154, b161⟩ wS ⟨hN, hB, hD, hF, hFn⟩
                      refine norm_ (a' := ?_) ?_ ?_
                      rotate_left
                      ·simp only [putAll, Act.put, List.setIfInBounds_toArray, List.set_cons_zero, List.set_cons_succ]
                       rfl
                      refine one_ (i := 13) (N := some 148) (bL 37 133169151) rfl rfl (one_of HT_.out (by kernel_rfl)) (by decide) (fun K hK => ?_)
                      refine NetL.appN_step hN (by rfl) (.tmp 141) (.tmp 147) 73 1 (x6 || ob) b147 hB rfl Try.underlying73 info4x (by decide) rfl rfl (by rw [NL_length]; have := HI.out; have := OKN.out.len; omega) ?_
                      intro v148 wE nN hg
                      refine hK.out _ _ (NetL.cells nN) (fun hHeld2 => ?_)
                      exact norm_ (by first | (simp only [putAll, Act.put, List.setIfInBounds_toArray, List.set_cons_zero, List.set_cons_succ]; done) | (simp only [putAll, Act.put, List.setIfInBounds_toArray, List.set_cons_zero, List.set_cons_succ]; rfl)) (hS311 (v144, v145, b147, v148, b154, b161) _ ⟨nN, (blk_grown hD hg (Kd.R_ne hN.net.rN hD (by decide))), (blk_grown hF hg (Kd.R_ne hN.net.rN hF (by decide))), hFn⟩)
                    refine join_ (σ := Value × Value × Nat × Nat) 13 (bL 37 66052095) (fun s_ => [(144, s_.1), (145, s_.2.1), (146, (.bool (x6 || ob))), (147, (.slice (some ⟨s_.2.2.1, 0, none⟩) 1 1 : Value)), (154, (.slice (some ⟨s_.2.2.2, 0, none⟩) 1 1 : Value))]) (fun s_ w' => NetL w.heap.size w w' gx #[.slice (some ad1) l0.length c0, vn, vf, vl, (.slice aw ws1.length cw)] vn vf vl (.slice aw ws1.length cw) (NL l0 x16.toNat) fs ls ws1 oF4 oL4 gb #[.int .i64 (rd_T44 l0 x16).f0, .string (rd_T44 l0 x16).f1, .slice A2 (rd_T44 l0 x16).f2.length c2, .int .i64 (rd_T44 l0 x16).f3] (.slice A7 l7.length c7) (.slice A8 l8.length c8) l7 l8 o74 o84 ∧ w'.heap[(s_.2.2.1 : Nat)]? = some (.cells #[.bool (x6 || ob)] 4 (0, 0)) ∧ w'.heap[(s_.2.2.2 : Nat)]? = some (.cells #[(.slice A7 l7.length c7)] 41 (0, 0))) ?_ (fun hS210 => ?_)
                    ·as_aux_lemma =>
                      rintro ⟨v144, v145, b147, b154⟩ wS ⟨hN, hB, hD⟩
                      refine norm_ (a' := ?_) ?_ ?_
                      rotate_left
                      ·simp only [putAll, Act.put, List.setIfInBounds_toArray, List.set_cons_zero, List.set_cons_succ]
                       rfl
                      refine two_ (i := 13) (j := 26) (Ni := some 148) (Nj := some 161) (bL 37 66060287) (bL 37 133160959) rfl rfl rfl rfl (two_of HT_.out (by kernel_rfl)) (by decide) (by decide) (fun K hK => ?_) (fun K hK => ?_)
                      ·skip
                       refine NetL.appN_step hN (by rfl) (.tmp 141) (.tmp 147) 73 1 (x6 || ob) b147 hB rfl Try.underlying73 info4x (by decide) rfl rfl (by rw [NL_length]; have := HI.out; have := OKN.out.len; omega) ?_
                       intro v148 wE nN hg
                       refine hK.out _ _ (NetL.cells nN) (fun hHeld2 => ?_)
                       exact norm_ (by first | (simp only [putAll, Act.put, List.setIfInBounds_toArray, List.set_cons_zero, List.set_cons_succ]; done) | (simp only [putAll, Act.put, List.setIfInBounds_toArray, List.set_cons_zero, List.set_cons_succ]; rfl)) (hS310 (v144, v145, b147, v148, b154) _ ⟨nN, (blk_grown hD hg (Kd.R_ne hN.net.rN hD (by decide)))⟩)
                      ·skip
                       refine lit1_step (v := (.slice A8 l8.length c8)) (t := 41) (by rfl) ?_ ?_
                       · first | (go_simp; done) | (go_simp; rfl)
                       intro b161 wE hnew hc hb
                       refine hK.out _ _ (NetL.cells (NetL.below hN hb)) (fun hHeld2 => ?_)
                       exact norm_ (by first | (simp only [putAll, Act.put, List.setIfInBounds_toArray, List.set_cons_zero, List.set_cons_succ]; done) | (simp only [putAll, Act.put, List.setIfInBounds_toArray, List.set_cons_zero, List.set_cons_succ]; rfl)) (hS211 (v144, v145, b147, b154, b161) _ ⟨(NetL.below hN hb), (blk_below hB hb), (blk_below hD hb), hc, (fun he => absurd (Kd.R_lt hN.net.rF _ he.symm) (by rw [hnew]; exact Nat.lt_irrefl _))⟩)
                    refine join_ (σ := Value × Value × Nat × Nat) 13 (bL 37 132636671) (fun s_ => [(144, s_.1), (145, s_.2.1), (146, (.bool (x6 || ob))), (147, (.slice (some ⟨s_.2.2.1, 0, none⟩) 1 1 : Value)), (161, (.slice (some ⟨s_.2.2.2, 0, none⟩) 1 1 : Value))]) (fun s_ w' => NetL w.heap.size w w' gx #[.slice (some ad1) l0.length c0, vn, vf, vl, (.slice aw ws1.length cw)] vn vf vl (.slice aw ws1.length cw) (NL l0 x16.toNat) fs ls ws1 oF4 oL4 gb #[.int .i64 (rd_T44 l0 x16).f0, .string (rd_T44 l0 x16).f1, .slice A2 (rd_T44 l0 x16).f2.length c2, .int .i64 (rd_T44 l0 x16).f3] (.slice A7 l7.length c7) (.slice A8 l8.length c8) l7 l8 o74 o84 ∧ w'.heap[(s_.2.2.1 : Nat)]? = some (.cells #[.bool (x6 || ob)] 4 (0, 0)) ∧ w'.heap[(s_.2.2.2 : Nat)]? = some (.cells #[(.slice A8 l8.length c8)] 41 (0, 0)) ∧ some (s_.2.2.2 : Nat) ≠ vf.ownBlock) ?_ (fun hS201 => ?_)
                    ·as_aux_lemma =>
                      rintro ⟨v144, v145, b147, b161⟩ wS ⟨hN, hB, hF, hFn⟩
                      refine norm_ (a' := ?_) ?_ ?_
                      rotate_left
                      ·simp only [putAll, Act.put, List.setIfInBounds_toArray, List.set_cons_zero, List.set_cons_succ]
                       rfl
                      refine two_ (i := 13) (j := 19) (Ni := some 148) (Nj := some 154) (bL 37 132644863) (bL 37 133160959) rfl rfl rfl rfl (two_of HT_.out (by kernel_rfl)) (by decide) (by decide) (fun K hK => ?_) (fun K hK => ?_)
                      ·skip
                       refine NetL.appN_step hN (by rfl) (.tmp 141) (.tmp 147) 73 1 (x6 || ob) b147 hB rfl Try.underlying73 info4x (by decide) rfl rfl (by rw [NL_length]; have := HI.out; have := OKN.out.len; omega) ?_
                       intro v148 wE nN hg
                       refine hK.out _ _ (NetL.cells nN) (fun hHeld2 => ?_)
                       exact norm_ (by first | (simp only [putAll, Act.put, List.setIfInBounds_toArray, List.set_cons_zero, List.set_cons_succ]; done) | (simp only [putAll, Act.put, List.setIfInBounds_toArray, List.set_cons_zero, List.set_cons_succ]; rfl)) (hS301 (v144, v145, b147, v148, b161) _ ⟨nN, (blk_grown hF hg (Kd.R_ne hN.net.rN hF (by decide))), hFn⟩)
                      ·skip
                       refine lit1_step (v := (.slice A7 l7.length c7)) (t := 41) (by rfl) ?_ ?_
                       · first | (go_simp; done) | (go_simp; rfl)
                       intro b154 wE hnew hc hb
                       refine hK.out _ _ (NetL.cells (NetL.below hN hb)) (fun hHeld2 => ?_)
                       exact norm_ (by first | (simp only [putAll, Act.put, List.setIfInBounds_toArray, List.set_cons_zero, List.set_cons_succ]; done) | (simp only [putAll, Act.put, List.setIfInBounds_toArray, List.set_cons_zero, List.set_cons_succ]; rfl)) (hS211 (v144, v145, b147, b154, b161) _ ⟨(NetL.below hN hb), (blk_below hB hb), hc, (blk_below hF hb), hFn⟩)
                    refine join_ (σ := Value × Value × Nat) 14 (bL 37 65527807) (fun s_ => [(144, s_.1), (145, s_.2.1), (146, (.bool (x6 || ob))), (147, (.slice (some ⟨s_.2.2, 0, none⟩) 1 1 : Value))]) (fun s_ w' => NetL w.heap.size w w' gx #[.slice (some ad1) l0.length c0, vn, vf, vl, (.slice aw ws1.length cw)] vn vf vl (.slice aw ws1.length cw) (NL l0 x16.toNat) fs ls ws1 oF4 oL4 gb #[.int .i64 (rd_T44 l0 x16).f0, .string (rd_T44 l0 x16).f1, .slice A2 (rd_T44 l0 x16).f2.length c2, .int .i64 (rd_T44 l0 x16).f3] (.slice A7 l7.length c7) (.slice A8 l8.length c8) l7 l8 o74 o84 ∧ w'.heap[(s_.2.2 : Nat)]? = some (.cells #[.bool (x6 || ob)] 4 (0, 0))) ?_ (fun hS200 => ?_)
                    ·as_aux_lemma =>
                      rintro ⟨v144, v145, b147⟩ wS ⟨hN, hB⟩
                      refine norm_ (a' := ?_) ?_ ?_
                      rotate_left
                      ·simp only [putAll, Act.put, List.setIfInBounds_toArray, List.set_cons_zero, List.set_cons_succ]
                       rfl
                      refine three_ (i := 13) (j := 19) (k := 26) (Ni := some 148) (Nj := some 154) (Nk := some 161) (bL 37 65535999) (bL 37 66052095) (bL 37 132636671) rfl rfl rfl rfl rfl rfl (three_of HT_.out (by kernel_rfl)) (by decide) (by decide) (by decide) (fun K hK => ?_) (fun K hK => ?_) (fun K hK => ?_)
                      ·skip
                       refine NetL.appN_step hN (by rfl) (.tmp 141) (.tmp 147) 73 1 (x6 || ob) b147 hB rfl Try.underlying73 info4x (by decide) rfl rfl (by rw [NL_length]; have := HI.out; have := OKN.out.len; omega) ?_
                       intro v148 wE nN hg
                       refine hK.out _ _ (NetL.cells nN) (fun hHeld2 => ?_)
                       exact norm_ (by first | (simp only [putAll, Act.put, List.setIfInBounds_toArray, List.set_cons_zero, List.set_cons_succ]; done) | (simp only [putAll, Act.put, List.setIfInBounds_toArray, List.set_cons_zero, List.set_cons_succ]; rfl)) (hS300 (v144, v145, b147, v148) _ nN)
                      ·skip
                       refine lit1_step (v := (.slice A7 l7.length c7)) (t := 41) (by rfl) ?_ ?_
                       · first | (go_simp; done) | (go_simp; rfl)
                       intro b154 wE hnew hc hb
                       refine hK.out _ _ (NetL.cells (NetL.below hN hb)) (fun hHeld2 => ?_)
                       exact norm_ (by first | (simp only [putAll, Act.put, List.setIfInBounds_toArray, List.set_cons_zero, List.set_cons_succ]; done) | (simp only [putAll, Act.put, List.setIfInBounds_toArray, List.set_cons_zero, List.set_cons_succ]; rfl)) (hS210 (v144, v145, b147, b154) _ ⟨(NetL.below hN hb), (blk_below hB hb), hc⟩)
                      ·skip
                       refine lit1_step (v := (.slice A8 l8.length c8)) (t := 41) (by rfl) ?_ ?_
                       · first | (go_simp; done) | (go_simp; rfl)
                       intro b161 wE hnew hc hb
                       refine hK.out _ _ (NetL.cells (NetL.below hN hb)) (fun hHeld2 => ?_)
                       exact norm_ (by first | (simp only [putAll, Act.put, List.setIfInBounds_toArray, List.set_cons_zero, List.set_cons_succ]; done) | (simp only [putAll, Act.put, List.setIfInBounds_toArray, List.set_cons_zero, List.set_cons_succ]; rfl)) (hS201 (v144, v145, b147, b161) _ ⟨(NetL.below hN hb), (blk_below hB hb), hc, (fun he => absurd (Kd.R_lt hN.net.rF _ he.symm) (by rw [hnew]; exact Nat.lt_irrefl _))⟩)
                    refine join_ (σ := Value × Value × Nat × Nat) 13 (bL 37 133156863) (fun s_ => [(144, s_.1), (145, s_.2.1), (146, (.bool (x6 || ob))), (154, (.slice (some ⟨s_.2.2.1, 0, none⟩) 1 1 : Value)), (161, (.slice (some ⟨s_.2.2.2, 0, none⟩) 1 1 : Value))]) (fun s_ w' => NetL w.heap.size w w' gx #[.slice (some ad1) l0.length c0, vn, vf, vl, (.slice aw ws1.length cw)] vn vf vl (.slice aw ws1.length cw) (NL l0 x16.toNat) fs ls ws1 oF4 oL4 gb #[.int .i64 (rd_T44 l0 x16).f0, .string (rd_T44 l0 x16).f1, .slice A2 (rd_T44 l0 x16).f2.length c2, .int .i64 (rd_T44 l0 x16).f3] (.slice A7 l7.length c7) (.slice A8 l8.length c8) l7 l8 o74 o84 ∧ w'.heap[(s_.2.2.1 : Nat)]? = some (.cells #[(.slice A7 l7.length c7)] 41 (0, 0)) ∧ w'.heap[(s_.2.2.2 : Nat)]? = some (.cells #[(.slice A8 l8.length c8)] 41 (0, 0)) ∧ some (s_.2.2.2 : Nat) ≠ vf.ownBlock) ?_ (fun hS111 => ?_)
                    ·as_aux_lemma =>
                      rintro ⟨v144, v145, b154, b161⟩ wS ⟨hN, hD, hF, hFn⟩
                      refine norm_ (a' := ?_) ?_ ?_
                      rotate_left
                      ·simp only [putAll, Act.put, List.setIfInBounds_toArray, List.set_cons_zero, List.set_cons_succ]
                       rfl
                      refine one_ (i := 12) (N := some 147) (bL 37 133160959) rfl rfl (one_of HT_.out (by kernel_rfl)) (by decide) (fun K hK => ?_)
                      refine lit1_step (v := .bool (x6 || ob)) (t := 4) (by rfl) ?_ ?_
                      · first | (go_simp; done) | (go_simp; rfl)
                      intro b147 wE hnew hc hb
                      refine hK.out _ _ (NetL.cells (NetL.below hN hb)) (fun hHeld2 => ?_)
                      exact norm_ (by first | (simp only [putAll, Act.put, List.setIfInBounds_toArray, List.set_cons_zero, List.set_cons_succ]; done) | (simp only [putAll, Act.put, List.setIfInBounds_toArray, List.set_cons_zero, List.set_cons_succ]; rfl)) (hS211 (v144, v145, b147, b154, b161) _ ⟨(NetL.below hN hb), hc, (blk_below hD hb), (blk_below hF hb), hFn⟩)
                    refine join_ (σ := Value × Value × Nat) 14 (bL 37 66047999) (fun s_ => [(144, s_.1), (145, s_.2.1), (146, (.bool (x6 || ob))), (154, (.slice (some ⟨s_.2.2, 0, none⟩) 1 1 : Value))]) (fun s_ w' => NetL w.heap.size w w' gx #[.slice (some ad1) l0.length c0, vn, vf, vl, (.slice aw ws1.length cw)] vn vf vl (.slice aw ws1.length cw) (NL l0 x16.toNat) fs ls ws1 oF4 oL4 gb #[.int .i64 (rd_T44 l0 x16).f0, .string (rd_T44 l0 x16).f1, .slice A2 (rd_T44 l0 x16).f2.length c2, .int .i64 (rd_T44 l0 x16).f3] (.slice A7 l7.length c7) (.slice A8 l8.length c8) l7 l8 o74 o84 ∧ w'.heap[(s_.2.2 : Nat)]? = some (.cells #[(.slice A7 l7.length c7)] 41 (0, 0))) ?_ (fun hS110 => ?_)
                    ·as_aux_lemma =>
                      rintro ⟨v144, v145, b154⟩ wS ⟨hN, hD⟩
                      refine norm_ (a' := ?_) ?_ ?_
                      rotate_left
                      ·simp only [putAll, Act.put, List.setIfInBounds_toArray, List.set_cons_zero, List.set_cons_succ]
                       rfl
                      refine two_ (i := 12) (j := 26) (Ni := some 147) (Nj := some 161) (bL 37 66052095) (bL 37 133156863) rfl rfl rfl rfl (two_of HT_.out (by kernel_rfl)) (by decide) (by decide) (fun K hK => ?_) (fun K hK => ?_)
                      ·skip
                       refine lit1_step (v := .bool (x6 || ob)) (t := 4) (by rfl) ?_ ?_
                       · first | (go_simp; done) | (go_simp; rfl)
                       intro b147 wE hnew hc hb
                       refine hK.out _ _ (NetL.cells (NetL.below hN hb)) (fun hHeld2 => ?_)
                       exact norm_ (by first | (simp only [putAll, Act.put, List.setIfInBounds_toArray, List.set_cons_zero, List.set_cons_succ]; done) | (simp only [putAll, Act.put, List.setIfInBounds_toArray, List.set_cons_zero, List.set_cons_succ]; rfl)) (hS210 (v144, v145, b147, b154) _ ⟨(NetL.below hN hb), hc, (blk_below hD hb)⟩)
                      ·skip
                       refine lit1_step (v := (.slice A8 l8.length c8)) (t := 41) (by rfl) ?_ ?_
                       · first | (go_simp; done) | (go_simp; rfl)
                       intro b161 wE hnew hc hb
                       refine hK.out _ _ (NetL.cells (NetL.below hN hb)) (fun hHeld2 => ?_)
                       exact norm_ (by first | (simp only [putAll, Act.put, List.setIfInBounds_toArray, List.set_cons_zero, List.set_cons_succ]; done) | (simp only [putAll, Act.put, List.setIfInBounds_toArray, List.set_cons_zero, List.set_cons_succ]; rfl)) (hS111 (v144, v145, b154, b161) _ ⟨(NetL.below hN hb), (blk_below hD hb), hc, (fun he => absurd (Kd.R_lt hN.net.rF _ he.symm) (by rw [hnew]; exact Nat.lt_irrefl _))⟩)
                    refine join_ (σ := Value × Value × Nat) 14 (bL 37 132632575) (fun s_ => [(144, s_.1), (145, s_.2.1), (146, (.bool (x6 || ob))), (161, (.slice (some ⟨s_.2.2, 0, none⟩) 1 1 : Value))]) (fun s_ w' => NetL w.heap.size w w' gx #[.slice (some ad1) l0.length c0, vn, vf, vl, (.slice aw ws1.length cw)] vn vf vl (.slice aw ws1.length cw) (NL l0 x16.toNat) fs ls ws1 oF4 oL4 gb #[.int .i64 (rd_T44 l0 x16).f0, .string (rd_T44 l0 x16).f1, .slice A2 (rd_T44 l0 x16).f2.length c2, .int .i64 (rd_T44 l0 x16).f3] (.slice A7 l7.length c7) (.slice A8 l8.length c8) l7 l8 o74 o84 ∧ w'.heap[(s_.2.2 : Nat)]? = some (.cells #[(.slice A8 l8.length c8)] 41 (0, 0)) ∧ some (s_.2.2 : Nat) ≠ vf.ownBlock) ?_ (fun hS101 => ?_)
                    ·as_aux_lemma =>
                      rintro ⟨v144, v145, b161⟩ wS ⟨hN, hF, hFn⟩
                      refine norm_ (a' := ?_) ?_ ?_
                      rotate_left
                      ·simp only [putAll, Act.put, List.setIfInBounds_toArray, List.set_cons_zero, List.set_cons_succ]
                       rfl
                      refine two_ (i := 12) (j := 19) (Ni := some 147) (Nj := some 154) (bL 37 132636671) (bL 37 133156863) rfl rfl rfl rfl (two_of HT_.out (by kernel_rfl)) (by decide) (by decide) (fun K hK => ?_) (fun K hK => ?_)
                      ·skip
                       refine lit1_step (v := .bool (x6 || ob)) (t := 4) (by rfl) ?_ ?_
                       · first | (go_simp; done) | (go_simp; rfl)
                       intro b147 wE hnew hc hb
                       refine hK.out _ _ (NetL.cells (NetL.below hN hb)) (fun hHeld2 => ?_)
                       exact norm_ (by first | (simp only [putAll, Act.put, List.setIfInBounds_toArray, List.set_cons_zero, List.set_cons_succ]; done) | (simp only [putAll, Act.put, List.setIfInBounds_toArray, List.set_cons_zero, List.set_cons_succ]; rfl)) (hS201 (v144, v145, b147, b161) _ ⟨(NetL.below hN hb), hc, (blk_below hF hb), hFn⟩)
                      ·skip
                       refine lit1_step (v := (.slice A7 l7.length c7)) (t := 41) (by rfl) ?_ ?_
                       · first | (go_simp; done) | (go_simp; rfl)
                       intro b154 wE hnew hc hb
                       refine hK.out _ _ (NetL.cells (NetL.below hN hb)) (fun hHeld2 => ?_)
                       exact norm_ (by first | (simp only [putAll, Act.put, List.setIfInBounds_toArray, List.set_cons_zero, List.set_cons_succ]; done) | (simp only [putAll, Act.put, List.setIfInBounds_toArray, List.set_cons_zero, List.set_cons_succ]; rfl)) (hS111 (v144, v145, b154, b161) _ ⟨(NetL.below hN hb), hc, (blk_below hF hb), hFn⟩)
                    refine join_ (σ := Value × Value) 15 (bL 37 65523711) (fun s_ => [(144, s_.1), (145, s_.2), (146, (.bool (x6 || ob)))]) (fun s_ w' => NetL w.heap.size w w' gx #[.slice (some ad1) l0.length c0, vn, vf, vl, (.slice aw ws1.length cw)] vn vf vl (.slice aw ws1.length cw) (NL l0 x16.toNat) fs ls ws1 oF4 oL4 gb #[.int .i64 (rd_T44 l0 x16).f0, .string (rd_T44 l0 x16).f1, .slice A2 (rd_T44 l0 x16).f2.length c2, .int .i64 (rd_T44 l0 x16).f3] (.slice A7 l7.length c7) (.slice A8 l8.length c8) l7 l8 o74 o84) ?_ (fun hS100 => ?_)
                    ·as_aux_lemma =>
                      rintro ⟨v144, v145⟩ wS hN
                      refine norm_ (a' := ?_) ?_ ?_
                      rotate_left
                      ·simp only [putAll, Act.put, List.setIfInBounds_toArray, List.set_cons_zero, List.set_cons_succ]
                       rfl
                      refine three_ (i := 12) (j := 19) (k := 26) (Ni := some 147) (Nj := some 154) (Nk := some 161) (bL 37 65527807) (bL 37 66047999) (bL 37 132632575) rfl rfl rfl rfl rfl rfl (three_of HT_.out (by kernel_rfl)) (by decide) (by decide) (by decide) (fun K hK => ?_) (fun K hK => ?_) (fun K hK => ?_)
                      ·skip
                       refine lit1_step (v := .bool (x6 || ob)) (t := 4) (by rfl) ?_ ?_
                       · first | (go_simp; done) | (go_simp; rfl)
                       intro b147 wE hnew hc hb
                       refine hK.out _ _ (NetL.cells (NetL.below hN hb)) (fun hHeld2 => ?_)
                       exact norm_ (by first | (simp only [putAll, Act.put, List.setIfInBounds_toArray, List.set_cons_zero, List.set_cons_succ]; done) | (simp only [putAll, Act.put, List.setIfInBounds_toArray, List.set_cons_zero, List.set_cons_succ]; rfl)) (hS200 (v144, v145, b147) _ ⟨(NetL.below hN hb), hc⟩)
                      ·skip
                       refine lit1_step (v := (.slice A7 l7.length c7)) (t := 41) (by rfl) ?_ ?_
                       · first | (go_simp; done) | (go_simp; rfl)
                       intro b154 wE hnew hc hb
                       refine hK.out _ _ (NetL.cells (NetL.below hN hb)) (fun hHeld2 => ?_)
                       exact norm_ (by first | (simp only [putAll, Act.put, List.setIfInBounds_toArray, List.set_cons_zero, List.set_cons_succ]; done) | (simp only [putAll, Act.put, List.setIfInBounds_toArray, List.set_cons_zero, List.set_cons_succ]; rfl)) (hS110 (v144, v145, b154) _ ⟨(NetL.below hN hb), hc⟩)
                      ·skip
                       refine lit1_step (v := (.slice A8 l8.length c8)) (t := 41) (by rfl) ?_ ?_
                       · first | (go_simp; done) | (go_simp; rfl)
                       intro b161 wE hnew hc hb
                       refine hK.out _ _ (NetL.cells (NetL.below hN hb)) (fun hHeld2 => ?_)
                       exact norm_ (by first | (simp only [putAll, Act.put, List.setIfInBounds_toArray, List.set_cons_zero, List.set_cons_succ]; done) | (simp only [putAll, Act.put, List.setIfInBounds_toArray, List.set_cons_zero, List.set_cons_succ]; rfl)) (hS101 (v144, v145, b161) _ ⟨(NetL.below hN hb), hc, (fun he => absurd (Kd.R_lt hN.net.rF _ he.symm) (by rw [hnew]; exact Nat.lt_irrefl _))⟩)
                    have hN := HN.out
                    cases x6
                    case true =>
                      refine pure_ (i := 9) (N := some 144) (v := undef) (a' := ?_) (bL 37 65520639) rfl rfl (any_of HT_.out (by kernel_rfl)) (fun _ _ _ h => h) (Or.inr ⟨by rfl, rfl⟩) ?_ ?_
                      rotate_left
                      ·simp only [Act.put, List.setIfInBounds_toArray, List.set_cons_zero, List.set_cons_succ, i64_w, i32_w]
                       rfl
                      refine pure_ (i := 10) (N := some 145) (v := undef) (a' := ?_) (bL 37 65521663) rfl rfl (any_of HT_.out (by kernel_rfl)) (fun _ _ _ h => h) (Or.inr ⟨by rfl, rfl⟩) ?_ ?_
                      rotate_left
                      ·simp only [Act.put, List.setIfInBounds_toArray, List.set_cons_zero, List.set_cons_succ, i64_w, i32_w]
                       rfl
                      refine pure_ (i := 11) (N := some 146) (v := ?_) (a' := ?_) (bL 37 65523711) rfl rfl (any_of HT_.out (by kernel_rfl)) (fun _ _ _ h => h) (Or.inl ⟨by rfl, ?_⟩) ?_ ?_
                      rotate_left
                      ·intro w'
                       go_simp
                       with_reducible rfl
                      rotate_left
                      ·simp only [Act.put, List.setIfInBounds_toArray, List.set_cons_zero, List.set_cons_succ, i64_w, i32_w]
                       rfl
                      exact norm_ (by first | (simp only [putAll, Act.put, List.setIfInBounds_toArray, List.set_cons_zero, List.set_cons_succ]; done) | (simp only [putAll, Act.put, List.setIfInBounds_toArray, List.set_cons_zero, List.set_cons_succ]; rfl)) (hS100 (undef, undef) _ hN)
                    case false =>
                      refine take_ (i := 9) (N := some 144) (v := ?_) (a' := ?_) (bL 37 65520639) rfl rfl (take_ofW HT_.out HW_.out (by kernel_rfl)) (fun _ _ _ h => h) (Or.inl ⟨by rfl, ?_⟩) hHeld ?_ ?_
                      rotate_left
                      ·rintro w' ⟨s0, s1, s2, s3, s4, s5, s6⟩
                       go_simp
                       with_reducible rfl
                      rotate_left
                      ·simp only [Act.put, List.setIfInBounds_toArray, List.set_cons_zero, List.set_cons_succ, i64_w, i32_w]
                       rfl
                      refine join_ (σ := Nat × Nat) 15 (bL 37 133153791) (fun s_ => [(154, (.slice (some ⟨s_.1, 0, none⟩) 1 1 : Value)), (161, (.slice (some ⟨s_.2, 0, none⟩) 1 1 : Value))]) (fun s_ w' => NetL w.heap.size w w' gx #[.slice (some ad1) l0.length c0, vn, vf, vl, (.slice aw ws1.length cw)] vn vf vl (.slice aw ws1.length cw) (NL l0 x16.toNat) fs ls ws1 oF4 oL4 gb #[.int .i64 (rd_T44 l0 x16).f0, .string (rd_T44 l0 x16).f1, .slice A2 (rd_T44 l0 x16).f2.length c2, .int .i64 (rd_T44 l0 x16).f3] (.slice A7 l7.length c7) (.slice A8 l8.length c8) l7 l8 o74 o84 ∧ w'.heap[(s_.1 : Nat)]? = some (.cells #[(.slice A7 l7.length c7)] 41 (0, 0)) ∧ w'.heap[(s_.2 : Nat)]? = some (.cells #[(.slice A8 l8.length c8)] 41 (0, 0)) ∧ some (s_.2 : Nat) ≠ vf.ownBlock) ?_ (fun hS011 => ?_)
                      ·as_aux_lemma =>
                        rintro ⟨b154, b161⟩ wS ⟨hN, hD, hF, hFn⟩
                        refine norm_ (a' := ?_) ?_ ?_
                        rotate_left
                        ·simp only [putAll, Act.put, List.setIfInBounds_toArray, List.set_cons_zero, List.set_cons_succ]
                         rfl
                        refine one_ (i := 10) (N := some 145) (bL 37 133154815) rfl rfl (one_of HT_.out (by kernel_rfl)) (by decide) (fun K hK => ?_)
                        refine goes_ (f := 68) Try.func68 (by kernel_rfl) rfl #[.agg #[.int .i64 (rd_T44 l0 x16).f0, .string (rd_T44 l0 x16).f1, .slice A2 (rd_T44 l0 x16).f2.length c2, .int .i64 (rd_T44 l0 x16).f3]] (by rfl) rfl rfl (by (try simp only [List.map_toArray, List.map_cons, List.map_nil]); first | done | rfl | (simp only [List.length_drop, List.length_take]; rfl)) ?_
                        (with_reducible refine (impl_PNode_isOptional.calls (rd_T44 l0 x16).f0 (rd_T44 l0 x16).f1 A2 c2 (rd_T44 l0 x16).f2 (rd_T44 l0 x16).f3 ob _ ?sO11 HC2.out HOB.out).mono ?_)
                        (case sO11 => exact Kd.C_below HR2.out hN.net.bel)
                        rintro e wA ⟨rfl, hb⟩
                        refine ⟨_, rfl, ?_⟩
                        refine hK.out _ _ (NetL.cells (NetL.below hN hb)) (fun hHeld2 => ?_)
                        refine norm_ (a' := ?_) ?_ ?_
                        rotate_left
                        ·show Act.put _ (some 145) _ = _
                         simp only [Act.put, List.setIfInBounds_toArray, List.set_cons_zero, List.set_cons_succ, i64_w, i32_w]
                         rfl
                        refine pure_ (i := 11) (N := some 146) (v := ?_) (a' := ?_) (bL 37 133156863) rfl rfl (any_of HT_.out (by kernel_rfl)) (fun _ _ _ h => h) (Or.inl ⟨by rfl, ?_⟩) ?_ ?_
                        rotate_left
                        ·intro w'
                         go_simp
                         with_reducible rfl
                        rotate_left
                        ·simp only [Act.put, List.setIfInBounds_toArray, List.set_cons_zero, List.set_cons_succ, i64_w, i32_w]
                         rfl
                        exact norm_ (by first | (simp only [putAll, Act.put, List.setIfInBounds_toArray, List.set_cons_zero, List.set_cons_succ]; done) | (simp only [putAll, Act.put, List.setIfInBounds_toArray, List.set_cons_zero, List.set_cons_succ]; rfl)) (hS111 ((.agg #[.int .i64 (rd_T44 l0 x16).f0, .string (rd_T44 l0 x16).f1, .slice A2 (rd_T44 l0 x16).f2.length c2, .int .i64 (rd_T44 l0 x16).f3] : Value), (.bool ob : Value), b154, b161) _ ⟨(NetL.below hN hb), (blk_below hD hb), (blk_below hF hb), hFn⟩)
                      refine join_ (σ := Nat) 16 (bL 37 66044927) (fun s_ => [(154, (.slice (some ⟨s_, 0, none⟩) 1 1 : Value))]) (fun s_ w' => NetL w.heap.size w w' gx #[.slice (some ad1) l0.length c0, vn, vf, vl, (.slice aw ws1.length cw)] vn vf vl (.slice aw ws1.length cw) (NL l0 x16.toNat) fs ls ws1 oF4 oL4 gb #[.int .i64 (rd_T44 l0 x16).f0, .string (rd_T44 l0 x16).f1, .slice A2 (rd_T44 l0 x16).f2.length c2, .int .i64 (rd_T44 l0 x16).f3] (.slice A7 l7.length c7) (.slice A8 l8.length c8) l7 l8 o74 o84 ∧ w'.heap[(s_ : Nat)]? = some (.cells #[(.slice A7 l7.length c7)] 41 (0, 0))) ?_ (fun hS010 => ?_)
                      ·as_aux_lemma =>
                        rintro b154 wS ⟨hN, hD⟩
                        refine norm_ (a' := ?_) ?_ ?_
                        rotate_left
                        ·simp only [putAll, Act.put, List.setIfInBounds_toArray, List.set_cons_zero, List.set_cons_succ]
                         rfl
                        refine two_ (i := 10) (j := 26) (Ni := some 145) (Nj := some 161) (bL 37 66045951) (bL 37 133153791) rfl rfl rfl rfl (two_of HT_.out (by kernel_rfl)) (by decide) (by decide) (fun K hK => ?_) (fun K hK => ?_)
                        ·skip
                         refine goes_ (f := 68) Try.func68 (by kernel_rfl) rfl #[.agg #[.int .i64 (rd_T44 l0 x16).f0, .string (rd_T44 l0 x16).f1, .slice A2 (rd_T44 l0 x16).f2.length c2, .int .i64 (rd_T44 l0 x16).f3]] (by rfl) rfl rfl (by (try simp only [List.map_toArray, List.map_cons, List.map_nil]); first | done | rfl | (simp only [List.length_drop, List.length_take]; rfl)) ?_
                         (with_reducible refine (impl_PNode_isOptional.calls (rd_T44 l0 x16).f0 (rd_T44 l0 x16).f1 A2 c2 (rd_T44 l0 x16).f2 (rd_T44 l0 x16).f3 ob _ ?sO10 HC2.out HOB.out).mono ?_)
                         (case sO10 => exact Kd.C_below HR2.out hN.net.bel)
                         rintro e wA ⟨rfl, hb⟩
                         refine ⟨_, rfl, ?_⟩
                         refine hK.out _ _ (NetL.cells (NetL.below hN hb)) (fun hHeld2 => ?_)
                         refine norm_ (a' := ?_) ?_ ?_
                         rotate_left
                         ·show Act.put _ (some 145) _ = _
                          simp only [Act.put, List.setIfInBounds_toArray, List.set_cons_zero, List.set_cons_succ, i64_w, i32_w]
                          rfl
                         refine pure_ (i := 11) (N := some 146) (v := ?_) (a' := ?_) (bL 37 66047999) rfl rfl (any_of HT_.out (by kernel_rfl)) (fun _ _ _ h => h) (Or.inl ⟨by rfl, ?_⟩) ?_ ?_
                         rotate_left
                         ·intro w'
                          go_simp
                          with_reducible rfl
                         rotate_left
                         ·simp only [Act.put, List.setIfInBounds_toArray, List.set_cons_zero, List.set_cons_succ, i64_w, i32_w]
                          rfl
                         exact norm_ (by first | (simp only [putAll, Act.put, List.setIfInBounds_toArray, List.set_cons_zero, List.set_cons_succ]; done) | (simp only [putAll, Act.put, List.setIfInBounds_toArray, List.set_cons_zero, List.set_cons_succ]; rfl)) (hS110 ((.agg #[.int .i64 (rd_T44 l0 x16).f0, .string (rd_T44 l0 x16).f1, .slice A2 (rd_T44 l0 x16).f2.length c2, .int .i64 (rd_T44 l0 x16).f3] : Value), (.bool ob : Value), b154) _ ⟨(NetL.below hN hb), (blk_below hD hb)⟩)
                        ·skip
                         refine lit1_step (v := (.slice A8 l8.length c8)) (t := 41) (by rfl) ?_ ?_
                         · first | (go_simp; done) | (go_simp; rfl)
                         intro b161 wE hnew hc hb
                         refine hK.out _ _ (NetL.cells (NetL.below hN hb)) (fun hHeld2 => ?_)
                         exact norm_ (by first | (simp only [putAll, Act.put, List.setIfInBounds_toArray, List.set_cons_zero, List.set_cons_succ]; done) | (simp only [putAll, Act.put, List.setIfInBounds_toArray, List.set_cons_zero, List.set_cons_succ]; rfl)) (hS011 (b154, b161) _ ⟨(NetL.below hN hb), (blk_below hD hb), hc, (fun he => absurd (Kd.R_lt hN.net.rF _ he.symm) (by rw [hnew]; exact Nat.lt_irrefl _))⟩)
                      refine join_ (σ := Nat) 16 (bL 37 132629503) (fun s_ => [(161, (.slice (some ⟨s_, 0, none⟩) 1 1 : Value))]) (fun s_ w' => NetL w.heap.size w w' gx #[.slice (some ad1) l0.length c0, vn, vf, vl, (.slice aw ws1.length cw)] vn vf vl (.slice aw ws1.length cw) (NL l0 x16.toNat) fs ls ws1 oF4 oL4 gb #[.int .i64 (rd_T44 l0 x16).f0, .string (rd_T44 l0 x16).f1, .slice A2 (rd_T44 l0 x16).f2.length c2, .int .i64 (rd_T44 l0 x16).f3] (.slice A7 l7.length c7) (.slice A8 l8.length c8) l7 l8 o74 o84 ∧ w'.heap[(s_ : Nat)]? = some (.cells #[(.slice A8 l8.length c8)] 41 (0, 0)) ∧ some (s_ : Nat) ≠ vf.ownBlock) ?_ (fun hS001 => ?_)
                      ·as_aux_lemma =>
                        rintro b161 wS ⟨hN, hF, hFn⟩
                        refine norm_ (a' := ?_) ?_ ?_
                        rotate_left
                        ·simp only [putAll, Act.put, List.setIfInBounds_toArray, List.set_cons_zero, List.set_cons_succ]
                         rfl
                        refine two_ (i := 10) (j := 19) (Ni := some 145) (Nj := some 154) (bL 37 132630527) (bL 37 133153791) rfl rfl rfl rfl (two_of HT_.out (by kernel_rfl)) (by decide) (by decide) (fun K hK => ?_) (fun K hK => ?_)
                        ·skip
                         refine goes_ (f := 68) Try.func68 (by kernel_rfl) rfl #[.agg #[.int .i64 (rd_T44 l0 x16).f0, .string (rd_T44 l0 x16).f1, .slice A2 (rd_T44 l0 x16).f2.length c2, .int .i64 (rd_T44 l0 x16).f3]] (by rfl) rfl rfl (by (try simp only [List.map_toArray, List.map_cons, List.map_nil]); first | done | rfl | (simp only [List.length_drop, List.length_take]; rfl)) ?_
                         (with_reducible refine (impl_PNode_isOptional.calls (rd_T44 l0 x16).f0 (rd_T44 l0 x16).f1 A2 c2 (rd_T44 l0 x16).f2 (rd_T44 l0 x16).f3 ob _ ?sO01 HC2.out HOB.out).mono ?_)
                         (case sO01 => exact Kd.C_below HR2.out hN.net.bel)
                         rintro e wA ⟨rfl, hb⟩
                         refine ⟨_, rfl, ?_⟩
                         refine hK.out _ _ (NetL.cells (NetL.below hN hb)) (fun hHeld2 => ?_)
                         refine norm_ (a' := ?_) ?_ ?_
                         rotate_left
                         ·show Act.put _ (some 145) _ = _
                          simp only [Act.put, List.setIfInBounds_toArray, List.set_cons_zero, List.set_cons_succ, i64_w, i32_w]
                          rfl
                         refine pure_ (i := 11) (N := some 146) (v := ?_) (a' := ?_) (bL 37 132632575) rfl rfl (any_of HT_.out (by kernel_rfl)) (fun _ _ _ h => h) (Or.inl ⟨by rfl, ?_⟩) ?_ ?_
                         rotate_left
                         ·intro w'
                          go_simp
                          with_reducible rfl
                         rotate_left
                         ·simp only [Act.put, List.setIfInBounds_toArray, List.set_cons_zero, List.set_cons_succ, i64_w, i32_w]
                          rfl
                         exact norm_ (by first | (simp only [putAll, Act.put, List.setIfInBounds_toArray, List.set_cons_zero, List.set_cons_succ]; done) | (simp only [putAll, Act.put, List.setIfInBounds_toArray, List.set_cons_zero, List.set_cons_succ]; rfl)) (hS101 ((.agg #[.int .i64 (rd_T44 l0 x16).f0, .string (rd_T44 l0 x16).f1, .slice A2 (rd_T44 l0 x16).f2.length c2, .int .i64 (rd_T44 l0 x16).f3] : Value), (.bool ob : Value), b161) _ ⟨(NetL.below hN hb), (blk_below hF hb), hFn⟩)
                        ·skip
                         refine lit1_step (v := (.slice A7 l7.length c7)) (t := 41) (by rfl) ?_ ?_
                         · first | (go_simp; done) | (go_simp; rfl)
                         intro b154 wE hnew hc hb
                         refine hK.out _ _ (NetL.cells (NetL.below hN hb)) (fun hHeld2 => ?_)
                         exact norm_ (by first | (simp only [putAll, Act.put, List.setIfInBounds_toArray, List.set_cons_zero, List.set_cons_succ]; done) | (simp only [putAll, Act.put, List.setIfInBounds_toArray, List.set_cons_zero, List.set_cons_succ]; rfl)) (hS011 (b154, b161) _ ⟨(NetL.below hN hb), hc, (blk_below hF hb), hFn⟩)
                      refine three_ (i := 10) (j := 19) (k := 26) (Ni := some 145) (Nj := some 154) (Nk := some 161) (bL 37 65521663) (bL 37 66044927) (bL 37 132629503) rfl rfl rfl rfl rfl rfl (three_of HT_.out (by kernel_rfl)) (by decide) (by decide) (by decide) (fun K hK => ?_) (fun K hK => ?_) (fun K hK => ?_)
                      ·skip
                       refine goes_ (f := 68) Try.func68 (by kernel_rfl) rfl #[.agg #[.int .i64 (rd_T44 l0 x16).f0, .string (rd_T44 l0 x16).f1, .slice A2 (rd_T44 l0 x16).f2.length c2, .int .i64 (rd_T44 l0 x16).f3]] (by rfl) rfl rfl (by (try simp only [List.map_toArray, List.map_cons, List.map_nil]); first | done | rfl | (simp only [List.length_drop, List.length_take]; rfl)) ?_
                       (with_reducible refine (impl_PNode_isOptional.calls (rd_T44 l0 x16).f0 (rd_T44 l0 x16).f1 A2 c2 (rd_T44 l0 x16).f2 (rd_T44 l0 x16).f3 ob _ ?sO00 HC2.out HOB.out).mono ?_)
                       (case sO00 => exact Kd.C_below HR2.out hN.net.bel)
                       rintro e wA ⟨rfl, hb⟩
                       refine ⟨_, rfl, ?_⟩
                       refine hK.out _ _ (NetL.cells (NetL.below hN hb)) (fun hHeld2 => ?_)
                       refine norm_ (a' := ?_) ?_ ?_
                       rotate_left
                       ·show Act.put _ (some 145) _ = _
                        simp only [Act.put, List.setIfInBounds_toArray, List.set_cons_zero, List.set_cons_succ, i64_w, i32_w]
                        rfl
                       refine pure_ (i := 11) (N := some 146) (v := ?_) (a' := ?_) (bL 37 65523711) rfl rfl (any_of HT_.out (by kernel_rfl)) (fun _ _ _ h => h) (Or.inl ⟨by rfl, ?_⟩) ?_ ?_
                       rotate_left
                       ·intro w'
                        go_simp
                        with_reducible rfl
                       rotate_left
                       ·simp only [Act.put, List.setIfInBounds_toArray, List.set_cons_zero, List.set_cons_succ, i64_w, i32_w]
                        rfl
                       exact norm_ (by first | (simp only [putAll, Act.put, List.setIfInBounds_toArray, List.set_cons_zero, List.set_cons_succ]; done) | (simp only [putAll, Act.put, List.setIfInBounds_toArray, List.set_cons_zero, List.set_cons_succ]; rfl)) (hS100 ((.agg #[.int .i64 (rd_T44 l0 x16).f0, .string (rd_T44 l0 x16).f1, .slice A2 (rd_T44 l0 x16).f2.length c2, .int .i64 (rd_T44 l0 x16).f3] : Value), (.bool ob : Value)) _ (NetL.below hN hb))
                      ·skip
                       refine lit1_step (v := (.slice A7 l7.length c7)) (t := 41) (by rfl) ?_ ?_
                       · first | (go_simp; done) | (go_simp; rfl)
                       intro b154 wE hnew hc hb
                       refine hK.out _ _ (NetL.cells (NetL.below hN hb)) (fun hHeld2 => ?_)
                       exact norm_ (by first | (simp only [putAll, Act.put, List.setIfInBounds_toArray, List.set_cons_zero, List.set_cons_succ]; done) | (simp only [putAll, Act.put, List.setIfInBounds_toArray, List.set_cons_zero, List.set_cons_succ]; rfl)) (hS010 (b154) _ ⟨(NetL.below hN hb), hc⟩)
                      ·skip
                       refine lit1_step (v := (.slice A8 l8.length c8)) (t := 41) (by rfl) ?_ ?_
                       · first | (go_simp; done) | (go_simp; rfl)
                       intro b161 wE hnew hc hb
                       refine hK.out _ _ (NetL.cells (NetL.below hN hb)) (fun hHeld2 => ?_)
                       exact norm_ (by first | (simp only [putAll, Act.put, List.setIfInBounds_toArray, List.set_cons_zero, List.set_cons_succ]; done) | (simp only [putAll, Act.put, List.setIfInBounds_toArray, List.set_cons_zero, List.set_cons_succ]; rfl)) (hS001 (b161) _ ⟨(NetL.below hN hb), hc, (fun he => absurd (Kd.R_lt hN.net.rF _ he.symm) (by rw [hnew]; exact Nat.lt_irrefl _))⟩)
      · have c1b0 : decide (x16 < (l0.length : Int)) = false := decide_eq_false hi
        have e_ : x16.toNat = l0.length := by have := HX.out; omega
        have h_ := HN.out
        rw [e_] at h_
        clear hi HN
        have HN := Aside0.mk h_
        clear h_
        go_wp2
        go_ret
        exact ⟨gx, vn, vf, vl, vw, fs, ls, ws, oF, oL, by first | rfl | (simp; done) | (simp [*] <;> rfl), (by (with_reducible repeat (first | apply NetH.alloc | apply NetH.drewN | apply NetH.drew)); exact HN.out)⟩
/-- The weights that are asked of the list: how many nodes each one has. -/
def CW (l0 : List S44) : Nat → List Nat
  | 0 => []
  | i + 1 => CW l0 i ++ [((rd_T44 l0 (i : Int)).f2.map (fun x => rdOf 0 (CW l0 i) x)).sum + 1]
def cw (l0 : List S44) (i : Nat) : Nat := rdOf 0 (CW l0 l0.length) (i : Int)
def okB (l0 : List S44) : Bool := decide (l0.length ≤ 40) && (List.range l0.length).all fun i => (rd_T44 l0 (i : Int)).f2.all (fun x => decide (0 ≤ x ∧ x < (i : Int))) && decide (((rd_T44 l0 (i : Int)).f2.map (fun x => cw l0 x.toNat)).sum + 1 ≤ cw l0 i) && decide (cw l0 i ≤ 40)
theorem NetOk.of {l0 : List S44} (h : okB l0 = true) : NetOk l0 (cw l0) := by
  unfold okB at h
  rw [Bool.and_eq_true] at h
  obtain ⟨h1, h2⟩ := h
  have h3 : ∀ i, i < l0.length → _ := fun i hi => List.all_eq_true.mp h2 i (List.mem_range.mpr hi)
  refine ⟨of_decide_eq_true h1, fun i hi x hx => ?_, fun i hi => ?_, fun i hi => ?_⟩
  · have h4 := h3 i hi
    rw [Bool.and_eq_true, Bool.and_eq_true] at h4
    exact of_decide_eq_true (List.all_eq_true.mp h4.1.1 x hx)
  · have h4 := h3 i hi
    rw [Bool.and_eq_true, Bool.and_eq_true] at h4
    exact of_decide_eq_true h4.1.2
  · have h4 := h3 i hi
    rw [Bool.and_eq_true, Bool.and_eq_true] at h4
    exact of_decide_eq_true h4.2
def impl_Nullable.f (k : Nat) (l0 : List S44) : Option Bool := (impl_ParticleOk.f k l0).bind fun t => if t = true then (if okB l0 = true ∧ 0 < l0.length then some (rdOf false (NL l0 l0.length) ((l0.length : Int) - 1)) else none) else some false
theorem impl_Nullable.mono (l0 : List S44) : ∀ k, LeO (impl_Nullable.f k l0) (impl_Nullable.f (k + 1) l0) := by
  intro k r h
  unfold impl_Nullable.f at h ⊢
  obtain ⟨t1, h1, h⟩ := Option.bind_eq_some_iff.mp h
  exact Option.bind_eq_some_iff.mpr ⟨t1, impl_ParticleOk.mono _ k t1 h1, h⟩
set_option maxHeartbeats 16000000 in
set_option maxRecDepth 100000 in
theorem impl_Nullable.calls (k : Nat) (A0 : Option Addr) (c0 : Nat) (l0 : List S44) (r : Bool) (w : World) (hr0 : Kd.C k44 w A0 l0.length l0) (hc0 : l0.length ≤ c0) (h : impl_Nullable.f k l0 = some r) :
    Calls Try.prog 15 #[.slice A0 l0.length c0] w fun e w' => e = .returned (.bool r) ∧ Below w.heap.size w w' := by
  have hu44 := Try.underlying44
  have HR0 := Aside0.mk hr0
  have HC0 := Aside0.mk hc0
  have HB := Aside0.mk (Below.refl w.heap.size w)
  clear hr0 hc0
  obtain ⟨t, ht, h⟩ := Option.bind_eq_some_iff.1 h
  have HT := Aside0.mk ht
  clear ht
  cases t
  case false =>
    simp only [Bool.false_eq_true, if_false, Option.some.injEq] at h
    subst h
    go_enter Try.func15, Try.ntmps15
    go_wp2_with (first | ((with_reducible refine gate_callee (f := 12) rfl ?_); (try (refine gate_guard (by rfl) ?_; dsimp only)); refine goesL_ (some 4) rfl rfl Try.func12 (by kernel_rfl) rfl #[.slice A0 l0.length c0] rfl (by (try simp only [List.map_toArray, List.map_cons, List.map_nil]); first | done | rfl | (simp only [List.length_drop, List.length_take]; rfl)) ?_; (with_reducible refine (impl_ParticleOk.calls k A0 c0 l0 _ _ ?side1 HC0.out HT.out).mono ?_); (case side1 => exact Kd.C_below HR0.out (by repeat (first | (with_reducible first | exact HB.out | apply below_alloc | apply pw_below_drewN | apply below_drew1) | exact HB.out))); rintro e w1 ⟨rfl, hb⟩; refine ⟨_, rfl, ?_⟩; have nb_ := Aside0.mk (below_step (by repeat (first | (with_reducible first | exact HB.out | apply below_alloc | apply pw_below_drewN | apply below_drew1) | exact HB.out)) hb); clear hb HB; have HB := nb_; clear nb_))
    go_ret
    exact ⟨by first | rfl | (simp [*] <;> rfl), (by repeat (first | (with_reducible first | exact HB.out | apply below_alloc | apply pw_below_drewN | apply below_drew1) | exact HB.out))⟩
  case true =>
    simp only [if_true] at h
    by_cases hk : okB l0 = true ∧ 0 < l0.length
    case neg =>
      rw [if_neg hk] at h
      cases h
    rw [if_pos hk] at h
    have hr := Option.some.inj h
    subst hr
    have NK := Aside0.mk (NetOk.of hk.1)
    have LP := Aside0.mk hk.2
    clear h hk
    go_enter Try.func15, Try.ntmps15
    go_wp2_with (first | ((with_reducible refine gate_callee (f := 12) rfl ?_); (try (refine gate_guard (by rfl) ?_; dsimp only)); refine goesL_ (some 4) rfl rfl Try.func12 (by kernel_rfl) rfl #[.slice A0 l0.length c0] rfl (by (try simp only [List.map_toArray, List.map_cons, List.map_nil]); first | done | rfl | (simp only [List.length_drop, List.length_take]; rfl)) ?_; (with_reducible refine (impl_ParticleOk.calls k A0 c0 l0 _ _ ?side1 HC0.out HT.out).mono ?_); (case side1 => exact Kd.C_below HR0.out (by repeat (first | (with_reducible first | exact HB.out | apply below_alloc | apply pw_below_drewN | apply below_drew1) | exact HB.out))); rintro e w1 ⟨rfl, hb⟩; refine ⟨_, rfl, ?_⟩; have nb_ := Aside0.mk (below_step (by repeat (first | (with_reducible first | exact HB.out | apply below_alloc | apply pw_below_drewN | apply below_drew1) | exact HB.out)) hb); clear hb HB; have HB := nb_; clear nb_) | ((with_reducible refine gate_callee (f := 40) rfl ?_); (try (refine gate_guard (by rfl) ?_; dsimp only)); refine goesL_ (some 7) rfl rfl Try.func40 (by kernel_rfl) rfl #[.slice A0 l0.length c0] rfl (by (try simp only [List.map_toArray, List.map_cons, List.map_nil]); first | done | rfl | (simp only [List.length_drop, List.length_take]; rfl)) ?_; (with_reducible refine (impl_netOf.calls (cw l0) A0 c0 l0 _ ?side2 HC0.out NK.out).mono ?_); (case side2 => exact Kd.C_below HR0.out (by repeat (first | (with_reducible first | exact HB.out | apply below_alloc | apply pw_below_drewN | apply below_drew1) | exact HB.out))); rintro e w2 ⟨gx, vn, vf, vl, vw, fs, ls, ws, oF, oL, rfl, hN⟩; refine ⟨_, rfl, ?_⟩; obtain ⟨gn, cn, en, _, _, cln, hgn⟩ := Kd.R_form hN.rN (by rw [NL_length]; exact LP.out); subst en; have nb_ := Aside0.mk (below_step (by repeat (first | (with_reducible first | exact HB.out | apply below_alloc | apply pw_below_drewN | apply below_drew1) | exact HB.out)) hN.bel); have HN := Aside0.mk hN; clear HB hN hgn; have HB := nb_; clear nb_) | ((with_reducible refine gate_callee (f := 42) rfl ?_); (try (refine gate_guard (by rfl) ?_; dsimp only)); refine goesL_ (some 8) rfl rfl Try.func42 (by kernel_rfl) rfl #[] rfl (by (try simp only [List.map_toArray, List.map_cons, List.map_nil]); first | done | rfl | (simp only [List.length_drop, List.length_take]; rfl)) ?_; (with_reducible refine (impl_start.calls [-1] _ rfl).mono ?_); rintro e w3 ⟨v8, rfl, ho, hb⟩; refine ⟨_, rfl, ?_⟩; obtain ⟨A8, c8, e8⟩ := Kd.R_slice ho; subst e8; have nn_ := Aside0.mk (NetH.below HN.out hb); have HO := Aside0.mk ho; have nb_ := Aside0.mk (below_step (by repeat (first | (with_reducible first | exact HB.out | apply below_alloc | apply pw_below_drewN | apply below_drew1) | exact HB.out)) hb); clear HB HN ho hb; have HB := nb_; have HN := nn_; clear nb_ nn_) | ((with_reducible refine gate_callee (f := 41) rfl ?_); (try (refine gate_guard (by rfl) ?_; dsimp only)); refine goesL_ (some 9) rfl rfl Try.func41 (by kernel_rfl) rfl #[.pointer (some ⟨gx, 0, none⟩), .slice A8 1 c8] rfl (by (try simp only [List.map_toArray, List.map_cons, List.map_nil]); first | done | rfl | (simp only [List.length_drop, List.length_take]; rfl)) ?_; (with_reducible refine (impl_mayEnd.calls gx A0 l0.length c0 ⟨gn, 0, none⟩ cn (NL l0 l0.length) vf vl vw A8 c8 _ ?me1 ?me2 ?me3 (NL_length l0 _) LP.out ?me4).mono ?_); (case me1 => exact HN.out.box); (case me2 => exact (Kd.R_reads' HN.out.rN).2.2); (case me3 => exact (Kd.R_reads' HO.out).2.2); (case me4 => have := NK.out.len; omega); rintro e w4 ⟨rfl, ⟨nd, rfl⟩⟩; refine ⟨_, rfl, ?_⟩))
    go_ret
    exact ⟨by first | rfl | (simp [*] <;> rfl), (by repeat (first | (with_reducible first | exact HB.out | apply below_alloc | apply pw_below_drewN | apply below_drew1) | exact HB.out))⟩

end Go.Proofs.Ytaliphegdclkfaa.PL
