-- Printed by this session's pdrive.py over the kit's printer.
import Derived.Test.YtaliphegdclkfaaPUx0
import Derived.Test.YtaliphegdclkfaaPUx4
namespace Go.Proofs.Ytaliphegdclkfaa.PU
open Go.RowKit Go.Proofs.YtaliphegdclkfaaW.PrintWords Go.Proofs.YtaliphegdclkfaaW.PrintLast Go.Proofs.YtaliphegdclkfaaW.PrintMore Go.Proofs.YtaliphegdclkfaaW.WordsB
attribute [local go_sem] max2_int min2_int max_two min_two max_three min_three max_four min_four   -- for this text's walks alone
set_option linter.unusedVariables false
set_option linter.unusedSimpArgs false

/-! ### spec_l8Turn: function 47 -/
theorem turn_ks {w W : World} {S : Nat → Prop} (h : Kept w W S) : w.heap.size ≤ W.heap.size := h.1
mutual
def spec_l8Turn.l0 : Nat → List S44 → Int → List S44 → List Int → Int → Option (List S44 × List Int)
  | 0, _, _, _, _, _ => none
  | k + 1, l0, a1, x2, x8, x9 => (if x9 < ((rd_T44 l0 a1).f2.length : Int) then (if (rd_T44 l0 a1).f0 = 2 then (if 0 ≤ (wrap64 ((wrap64 (((rd_T44 l0 a1).f2.length : Int) - 1)) - x9)) then (if (wrap64 ((wrap64 (((rd_T44 l0 a1).f2.length : Int) - 1)) - x9)) < ((rd_T44 l0 a1).f2.length : Int) then ((spec_l8Turn.f k l0 (rd (rd_T44 l0 a1).f2 (wrap64 ((wrap64 (((rd_T44 l0 a1).f2.length : Int) - 1)) - x9))) x2).bind fun o1 => (if x8.length + o1.length < 1000000 then (spec_l8Turn.l0 k l0 a1 o1 (x8 ++ [wrap64 ((o1.length : Int) - 1)]) (wrap64 (x9 + 1))) else none)) else none) else none) else (if 0 ≤ x9 then (if x9 < ((rd_T44 l0 a1).f2.length : Int) then ((spec_l8Turn.f k l0 (rd (rd_T44 l0 a1).f2 x9) x2).bind fun o1 => (if x8.length + o1.length < 1000000 then (spec_l8Turn.l0 k l0 a1 o1 (x8 ++ [wrap64 ((o1.length : Int) - 1)]) (wrap64 (x9 + 1))) else none)) else none) else none)) else some (x2, x8))
def spec_l8Turn.f : Nat → List S44 → Int → List S44 → Option (List S44)
  | 0, _, _, _ => none
  | k + 1, l0, a1, a2 => (if 0 ≤ a1 then (if a1 < (l0.length : Int) then ((spec_l8Turn.l0 k l0 a1 a2 [] 0).bind fun q => (if q.1.length < 1000000 then some (q.1 ++ [⟨(rd_T44 l0 a1).f0, (rd_T44 l0 a1).f1, q.2, (rd_T44 l0 a1).f3⟩]) else none)) else none) else none)
end
set_option maxHeartbeats 8000000 in
set_option maxRecDepth 100000 in
theorem spec_l8Turn.calls (k : Nat) : ∀ (A0 : Option Addr) (c0 : Nat) (l0 : List S44) (a1 : Int) (u2 : Value) (a2 r : List S44) (P0_ : Nat → Prop) (w0 w : World) (hB : Below w0.heap.size w0 w) (hr0 : Kd.C k44 w0 A0 l0.length l0) (hc0 : l0.length ≤ c0) (ho0 : Kd.S k44 44 w w0.heap.size P0_ u2 a2) (h : spec_l8Turn.f k l0 a1 a2 = some r),
    Calls Try.prog 47 #[.slice A0 l0.length c0, .int .i64 a1, u2] w fun e w' => ∃ v0_ : Value, e = .returned v0_ ∧ Kd.S k44 44 w' w0.heap.size (fun k_ => (P0_ k_ ∨ w.heap.size ≤ k_)) v0_ r ∧ Below w0.heap.size w0 w' ∧ Kept w w' (fun k_ => P0_ k_) := by
  induction k using Nat.strongRecOn with
  | _ k ih =>
  intro A0 c0 l0 a1 u2 a2 r P0_ w0 w hB hr0 hc0 ho0 h
  cases k with
  | zero => exact absurd h (by simp [spec_l8Turn.f])
  | succ k =>
  simp only [spec_l8Turn.f] at h
  have hu44 := Try.underlying44
  have HW0 := Aside0.mk hB.size
  have HR0 := Aside0.mk hr0
  have HC0 := Aside0.mk hc0
  have HO := Aside0.mk (Kd.S_mono (ok' := fun k_ => P0_ k_ ∧ k_ < w.heap.size) (Kd.S_bound ho0) (fun k_ hk => ⟨hk.1, hk.2.2.1⟩))
  have HK := Aside0.mk (Kept.refl w (fun k_ => P0_ k_))
  have HB := Aside0.mk hB
  clear hB hr0 hc0 ho0
  by_cases c3 : 0 ≤ a1
  case neg => rw [if_neg c3] at h; cases h
  rw [if_pos c3] at h
  by_cases c4 : a1 < (l0.length : Int)
  case neg => rw [if_neg c4] at h; cases h
  rw [if_pos c4] at h
  obtain ⟨⟨ro, rk⟩, hloop, hfin⟩ := Option.bind_eq_some_iff.1 h
  clear h
  have H' := Aside0.mk hloop
  have HF := Aside0.mk hfin
  clear hloop hfin
  have c3b0 : decide (0 ≤ a1) = true := decide_eq_true c3
  have c4b0 : decide (a1 < (l0.length : Int)) = true := decide_eq_true c4
  obtain ⟨ad1, A2, c2, e1, hx1_0, hx1_1, hx1_2, hx1_3, hl2, hi2⟩ := at_T44 HR0.out a1 c3 c4
  cases e1
  replace hx1_0 := (HB.out.cell (World.block_lt_of_cell? w0 _ hx1_0)).trans hx1_0
  replace hx1_1 := (HB.out.cell (World.block_lt_of_cell? w0 _ hx1_1)).trans hx1_1
  replace hx1_2 := (HB.out.cell (World.block_lt_of_cell? w0 _ hx1_2)).trans hx1_2
  replace hx1_3 := (HB.out.cell (World.block_lt_of_cell? w0 _ hx1_3)).trans hx1_3
  have HR2 := Aside0.mk hi2
  have HC2 := Aside0.mk hl2
  clear hi2 hl2
  have p1 := eq_true c3
  have q1 := eq_true c4
  clear c3 c4
  go_enter Try.func47, Try.ntmps47
  go_wp2_with (first | ((with_reducible refine gate_dst (N := 7) rfl ?_); (try (refine gate_guard (by rfl) ?_; dsimp only)); refine box_event ?hg (N := 7) ?hd (cs := #[.int .i64 0, .string (⟨#[]⟩ : ByteArray), .slice none 0 0, .int .i64 0]) (t := 44) ?hr ?_; (case hd => rfl); (case hg => rfl); (case hr => first | (go_simp; done) | (go_simp; rfl)); intro gb hg w6 hbox hb; have nk_ := Aside0.mk (Kept.below (by repeat (first | (with_reducible first | exact HK.out | apply Kept.alloc | apply Kept.drewN | apply Kept.drew) | exact HK.out)) hb); have nb_ := Aside0.mk (below_step (by repeat (first | (with_reducible first | exact HB.out | apply below_alloc | apply pw_below_drewN | apply below_drew1) | exact HB.out)) hb); have GE : Aside0 (w0.heap.size ≤ gb) := ⟨by rw [hg]; exact (below_size (by repeat (first | (with_reducible first | exact HB.out | apply below_alloc | apply pw_below_drewN | apply below_drew1) | exact HB.out)))⟩; have GW : Aside0 (w.heap.size ≤ gb) := ⟨by rw [hg]; exact turn_ks (by repeat (first | (with_reducible first | exact HK.out | apply Kept.alloc | apply Kept.drewN | apply Kept.drew) | exact HK.out))⟩; have no_ := Aside0.mk (Kd.S_mono (ok := fun k_ => P0_ k_ ∧ k_ < w.heap.size) (ok' := (fun k_ => (P0_ k_ ∨ w.heap.size ≤ k_) ∧ k_ ≠ gb)) (Kd.S_below (by (with_reducible repeat (first | apply Kd.S_alloc | apply Kd.S_drewN | apply Kd.S_drew)); exact HO.out) hb) (fun k_ hk => ⟨.inl hk.1, fun e_ => by have := GW.out; have := hk.2; omega⟩)); have BK := Aside0.mk hbox; clear hb hbox hg; clear HO HB HK; have HO := no_; have HB := nb_; have HK := nk_; clear no_ nb_ nk_; have hcz_0 : w6.cell? ⟨gb, 0, none⟩ = some (.int .i64 0) := (blk_cell BK.out 0).trans rfl; have hcz_1 : w6.cell? ⟨gb, 1, none⟩ = some (.string (⟨#[]⟩ : ByteArray)) := (blk_cell BK.out 1).trans rfl; have hcz_2 : w6.cell? ⟨gb, 2, none⟩ = some (.slice none 0 0) := (blk_cell BK.out 2).trans rfl; have hcz_3 : w6.cell? ⟨gb, 3, none⟩ = some (.int .i64 0) := (blk_cell BK.out 3).trans rfl; have hfz_0 := blk_frozen BK.out 0; have hfz_1 := blk_frozen BK.out 1; have hfz_2 := blk_frozen BK.out 2; have hfz_3 := blk_frozen BK.out 3) | ((with_reducible refine gate_store (t := 44) (p := 7) rfl ?_); refine store_event (t := 44) (p := 7) (v := ?vo) (w1 := ((((w6.setCell ⟨gb, 0, none⟩ (.int .i64 (rd_T44 l0 a1).f0)).setCell ⟨gb, 1, none⟩ (.string (rd_T44 l0 a1).f1)).setCell ⟨gb, 2, none⟩ (.slice A2 (rd_T44 l0 a1).f2.length c2)).setCell ⟨gb, 3, none⟩ (.int .i64 (rd_T44 l0 a1).f3))) ?hg ?ho ?hn ?hr ?_; (case ho => rfl); (case hg => rfl); (case hn => rfl); (case hr => first | (go_simp; done) | (go_simp; rfl)); intro w8 hw; have n0_ : Aside0 (w8.heap[gb]? = some (.cells #[.int .i64 (rd_T44 l0 a1).f0, .string (rd_T44 l0 a1).f1, .slice A2 (rd_T44 l0 a1).f2.length c2, .int .i64 (rd_T44 l0 a1).f3] 44 (0, 0))) := ⟨(by rw [hw]; refine blk_put (cs := #[.int .i64 (rd_T44 l0 a1).f0, .string (rd_T44 l0 a1).f1, .slice A2 (rd_T44 l0 a1).f2.length c2, .int .i64 0]) ?_ 3 _ rfl; refine blk_put (cs := #[.int .i64 (rd_T44 l0 a1).f0, .string (rd_T44 l0 a1).f1, .slice none 0 0, .int .i64 0]) ?_ 2 _ rfl; refine blk_put (cs := #[.int .i64 (rd_T44 l0 a1).f0, .string (⟨#[]⟩ : ByteArray), .slice none 0 0, .int .i64 0]) ?_ 1 _ rfl; refine blk_put (cs := #[.int .i64 0, .string (⟨#[]⟩ : ByteArray), .slice none 0 0, .int .i64 0]) ?_ 0 _ rfl; exact (by (with_reducible repeat (first | refine blk_drewN ?_ _ | refine blk_drew ?_ | refine blk_alloc ?_ _)); exact BK.out))⟩; have nb_ : Aside0 (Below w0.heap.size w0 w8) := ⟨by rw [hw]; exact below_set (below_set (below_set (below_set HB.out GE.out) GE.out) GE.out) GE.out⟩; have nk_ : Aside0 (Kept w w8 (fun k_ => P0_ k_)) := ⟨by rw [hw]; exact Kept.setCell (Kept.setCell (Kept.setCell (Kept.setCell HK.out (.inr GW.out) _) (.inr GW.out) _) (.inr GW.out) _) (.inr GW.out) _⟩; have no_ : Aside0 (Kd.S k44 44 w8 w0.heap.size (fun k_ => (P0_ k_ ∨ w.heap.size ≤ k_) ∧ k_ ≠ gb) u2 a2) := ⟨by rw [hw]; exact Kd.S_far (Kd.S_far (Kd.S_far (Kd.S_far HO.out (p := ⟨gb, 0, none⟩) (fun k_ hk => hk.2) _) (p := ⟨gb, 1, none⟩) (fun k_ hk => hk.2) _) (p := ⟨gb, 2, none⟩) (fun k_ hk => hk.2) _) (p := ⟨gb, 3, none⟩) (fun k_ hk => hk.2) _⟩; clear hw hcz_0 hcz_1 hcz_2 hcz_3 hfz_0 hfz_1 hfz_2 hfz_3; clear BK HO HB HK; have BK := n0_; have HO := no_; have HB := nb_; have HK := nk_; clear n0_ no_ nb_ nk_) | ((with_reducible refine gate_dst (N := 15) rfl ?_); (try (refine gate_guard (by rfl) ?_; dsimp only)); refine Kd.R_lit (Kd.int .i64) _ 2 ?hg (N := 15) ?hd (xs := ([] : List Int)) (inner := []) (ok := fun _ => True) (okp := fun _ => True) ?hr ?hp (fun _ hk => hk) trivial (Below.refl _ _) (Nat.le_refl _) (by simp) ?_; (case hd => rfl); (case hg => rfl); (case hr => first | (go_simp; done) | (go_simp; rfl)); (case hp => exact (Reps.none _ _)); intro v8 w9 ho hb hg_ hnew_; clear hg_ hnew_; have nl_ := Aside0.mk (Kd.R_lower (Kd.R_mono (ok' := fun k_ => w.heap.size ≤ k_) (Kd.R_bound ho) (fun k_ hk => Nat.le_trans (turn_ks (by repeat (first | (with_reducible first | exact HK.out | apply Kept.alloc | apply Kept.drewN | apply Kept.drew) | exact HK.out))) hk.2.1)) (below_size (by repeat (first | (with_reducible first | exact HB.out | apply below_alloc | apply pw_below_drewN | apply below_drew1) | exact HB.out)))); have no_ := Aside0.mk (Kd.S_elder' (by (with_reducible repeat (first | apply Kd.S_alloc | apply Kd.S_drewN | apply Kd.S_drew)); exact HO.out) (Kd.R_base ho) hb); have n0_ := Aside0.mk (blk_below (g := gb) (o := .cells #[.int .i64 (rd_T44 l0 a1).f0, .string (rd_T44 l0 a1).f1, .slice A2 (rd_T44 l0 a1).f2.length c2, .int .i64 (rd_T44 l0 a1).f3] 44 (0, 0)) (by (with_reducible repeat (first | refine blk_drewN ?_ _ | refine blk_drew ?_ | refine blk_alloc ?_ _)); exact BK.out) hb); have nk_ := Aside0.mk (Kept.below (by repeat (first | (with_reducible first | exact HK.out | apply Kept.alloc | apply Kept.drewN | apply Kept.drew) | exact HK.out)) hb); have nb_ := Aside0.mk (below_step (by repeat (first | (with_reducible first | exact HB.out | apply below_alloc | apply pw_below_drewN | apply below_drew1) | exact HB.out)) hb); clear ho hb; clear BK HO HB HK; have BK := n0_; have HO := no_; have HB := nb_; have HK := nk_; have HL := nl_; clear n0_ no_ nb_ nk_ nl_))
  go_loopg [2, 8, 9] k (fun kq v2 v8 v9 w' => ∃ (x2 : List S44) (x8 : List Int) (x9 : Int), v9 = .int .i64 x9 ∧ Aside0 (spec_l8Turn.l0 kq l0 a1 x2 x8 x9 = some (ro, rk)) ∧ Aside0 (kq ≤ k) ∧ Aside0 (Kd.S k44 44 w' w0.heap.size (fun k_ => ((P0_ k_ ∨ w.heap.size ≤ k_) ∧ k_ ≠ gb) ∧ some k_ ≠ (v8 : Value).ownBlock) v2 x2) ∧ Aside0 (Kd.R (Kd.int .i64) 2 w' w0.heap.size (fun k_ => w.heap.size ≤ k_) v8 x8) ∧ Aside0 (w'.heap[gb]? = some (.cells #[.int .i64 (rd_T44 l0 a1).f0, .string (rd_T44 l0 a1).f1, .slice A2 (rd_T44 l0 a1).f2.length c2, .int .i64 (rd_T44 l0 a1).f3] 44 (0, 0))) ∧ Aside0 (Kept w w' (fun k_ => P0_ k_)) ∧ Aside0 (Below w0.heap.size w0 w'))
  case atStart => exact ⟨a2, [], 0, (by first | rfl | (simp; done) | (simp [*]; done)), H', ⟨Nat.le_refl _⟩, ⟨(by (with_reducible repeat (first | apply Kd.S_alloc | apply Kd.S_drewN | apply Kd.S_drew)); exact HO.out)⟩, ⟨(by (with_reducible repeat (first | apply Kd.R_alloc | apply Kd.R_drewN | apply Kd.R_drew)); exact HL.out)⟩, ⟨(by (with_reducible repeat (first | refine blk_drewN ?_ _ | refine blk_drew ?_ | refine blk_alloc ?_ _)); exact BK.out)⟩, ⟨(by repeat (first | (with_reducible first | exact HK.out | apply Kept.alloc | apply Kept.drewN | apply Kept.drew) | exact HK.out))⟩, ⟨(by repeat (first | (with_reducible first | exact HB.out | apply below_alloc | apply pw_below_drewN | apply below_drew1) | exact HB.out))⟩⟩
  case round =>
    clear H' HO HK HB HL BK
    try clear hcz_0 hcz_1 hcz_2 hcz_3 hfz_0 hfz_1 hfz_2 hfz_3
    obtain ⟨x2, x8, x9, rfl, HA, HK1, HO, HL, BK, HK, HB⟩ := hrel
    cases gk with
    | zero => exact absurd HA.out (by simp [spec_l8Turn.l0])
    | succ k1 =>
      have H := HA.out
      clear HA
      rw [spec_l8Turn.l0] at H
      have hcz_0 : wr.cell? ⟨gb, 0, none⟩ = some (.int .i64 (rd_T44 l0 a1).f0) := (blk_cell BK.out 0).trans rfl
      have hcz_1 : wr.cell? ⟨gb, 1, none⟩ = some (.string (rd_T44 l0 a1).f1) := (blk_cell BK.out 1).trans rfl
      have hcz_2 : wr.cell? ⟨gb, 2, none⟩ = some (.slice A2 (rd_T44 l0 a1).f2.length c2) := (blk_cell BK.out 2).trans rfl
      have hcz_3 : wr.cell? ⟨gb, 3, none⟩ = some (.int .i64 (rd_T44 l0 a1).f3) := (blk_cell BK.out 3).trans rfl
      have hfz_0 := blk_frozen BK.out 0
      have hfz_1 := blk_frozen BK.out 1
      have hfz_2 := blk_frozen BK.out 2
      have hfz_3 := blk_frozen BK.out 3
      by_cases hi : x9 < ((rd_T44 l0 a1).f2.length : Int)
      · rw [if_pos hi] at H
        have c5b0 : decide (x9 < ((rd_T44 l0 a1).f2.length : Int)) = true := decide_eq_true hi
        clear hi
        by_cases cq : (rd_T44 l0 a1).f0 = 2
        · rw [if_pos cq] at H
          have cqb0 : ((rd_T44 l0 a1).f0 == 2) = true := beq_iff_eq.mpr cq
          clear cq
          obtain ⟨jx, hjx⟩ : ∃ j_ : Int, (wrap64 ((wrap64 (((rd_T44 l0 a1).f2.length : Int) - 1)) - x9)) = j_ := ⟨_, rfl⟩
          rw [hjx] at H
          have hjxw : (IntKind.i64.wrap ((IntKind.i64.wrap (((rd_T44 l0 a1).f2.length : Int) - 1)) - x9)) = jx := (by rw [i64_w, i64_w]; exact hjx)
          by_cases h3 : 0 ≤ jx
          case neg => rw [if_neg h3] at H; cases H
          rw [if_pos h3] at H
          by_cases h4 : jx < ((rd_T44 l0 a1).f2.length : Int)
          case neg => rw [if_neg h4] at H; cases H
          rw [if_pos h4] at H
          obtain ⟨o1, hc, H⟩ := Option.bind_eq_some_iff.1 H
          by_cases h5 : x8.length + o1.length < 1000000
          case neg => rw [if_neg h5] at H; cases H
          rw [if_pos h5] at H
          have HC_ := Aside0.mk hc
          have H5 := Aside0.mk h5
          have H' := Aside0.mk H
          clear hc h5 H
          obtain ⟨ad3, e3, hx3_0⟩ := Kd.at_int HR2.out jx h3 h4
          cases e3
          replace hx3_0 := (HB.out.cell (World.block_lt_of_cell? w0 _ hx3_0)).trans hx3_0
          have p3 := eq_true h3
          have q3 := eq_true h4
          clear h3 h4
          go_wp2_with (first | ((with_reducible refine gate_callee (f := 47) rfl ?_); refine goesL_ (some 40) rfl rfl Try.func47 (by kernel_rfl) rfl #[.slice (some ad1) l0.length c0, .int .i64 (rd (rd_T44 l0 a1).f2 jx), u2] rfl (by (try simp only [List.map_toArray, List.map_cons, List.map_nil]); first | done | rfl | (simp only [List.length_drop, List.length_take]; rfl)) ?_; (with_reducible refine (ih k1 ?sideL (some ad1) c0 l0 (rd (rd_T44 l0 a1).f2 jx) u2 x2 o1 (fun k_ => ((P0_ k_ ∨ w.heap.size ≤ k_) ∧ k_ ≠ gb) ∧ some k_ ≠ (u8 : Value).ownBlock) w0 _ ?side1 HR0.out HC0.out ?side2 HC_.out).mono ?_); (case sideL => have := HK1.out; omega); (case side1 => exact (by repeat (first | (with_reducible first | exact HB.out | apply below_alloc | apply pw_below_drewN | apply below_drew1) | exact HB.out))); (case side2 => exact (by (with_reducible repeat (first | apply Kd.S_alloc | apply Kd.S_drewN | apply Kd.S_drew)); exact HO.out)); rintro e w10 ⟨v5, rfl, ho, hb, hkp⟩; refine ⟨_, rfl, ?_⟩; obtain ⟨A5, c5, rfl⟩ := Kd.S_slice ho; have n0_ := Aside0.mk (blk_kept (g := gb) (o := .cells #[.int .i64 (rd_T44 l0 a1).f0, .string (rd_T44 l0 a1).f1, .slice (some ad3) (rd_T44 l0 a1).f2.length c2, .int .i64 (rd_T44 l0 a1).f3] 44 (0, 0)) (by (with_reducible repeat (first | refine blk_drewN ?_ _ | refine blk_drew ?_ | refine blk_alloc ?_ _)); exact BK.out) hkp (fun hs_ => hs_.1.2 rfl)); have hl8 : ∀ k_, (u8 : Value).ownBlock = some k_ → k_ < wr.heap.size := Kd.R_lt HL.out; have hl9 := blk_lt BK.out; have no_ := Aside0.mk (Kd.S_mono (ok' := (fun k_ => ((P0_ k_ ∨ w.heap.size ≤ k_) ∧ k_ ≠ gb) ∧ some k_ ≠ (u8 : Value).ownBlock)) ho (fun k_ hk => hk.elim id (fun hge => ⟨⟨.inr (Nat.le_trans (turn_ks (by repeat (first | (with_reducible first | exact HK.out | apply Kept.alloc | apply Kept.drewN | apply Kept.drew) | exact HK.out))) hge), fun e_ => Nat.lt_irrefl _ (Nat.lt_of_lt_of_le (e_ ▸ hl9) hge)⟩, fun e_ => Nat.lt_irrefl _ (Nat.lt_of_lt_of_le (hl8 k_ e_.symm) hge)⟩))); have nl_ := Aside0.mk (Kd.R_mono (ok' := fun k_ => w.heap.size ≤ k_) (Kd.R_kept (Kd.R_tight2 rfl (by (with_reducible repeat (first | apply Kd.R_alloc | apply Kd.R_drewN | apply Kd.R_drew)); exact HL.out)) hkp (fun k_ hk hs_ => hs_.2 hk.1)) (fun k_ hk => hk.2)); have nk_ := Aside0.mk (Kept.then_ (by repeat (first | (with_reducible first | exact HK.out | apply Kept.alloc | apply Kept.drewN | apply Kept.drew) | exact HK.out)) hkp (fun k_ hk => hk.1.1)); have nb_ := Aside0.mk hb; clear ho hb hkp hl8 hl9; clear BK HO HB HK HL; have BK := n0_; have HO := no_; have HB := nb_; have HK := nk_; have HL := nl_; clear n0_ no_ nb_ nk_ nl_) | ((with_reducible refine gate_builtin (b := .append) (xs := #[.tmp 41, .tmp 45]) rfl ?_); (try (refine gate_guard (by rfl) ?_; dsimp only)); at_builtin; refine Kd.R_append (Kd.int .i64) (w0 := w0) w0.heap.size rfl (.tmp 41) (.tmp 45) 41 2 (.int .i64 0) 8 rfl Try.underlying41 info2 rfl (by decide) (by omega) u8 x8 (wrap64 ((o1.length : Int) - 1)) [.int .i64 (wrap64 ((o1.length : Int) - 1))] (fun k_ => w.heap.size ≤ k_) (fun _ => False) rfl rfl ?aP (fun _ hk => hk.elim) ?aF ?aO ?aB ?aS ?aL ?_; (case aP => exact rfl); (case aB => exact (by repeat (first | (with_reducible first | exact HB.out | apply below_alloc | apply pw_below_drewN | apply below_drew1) | exact HB.out))); (case aF => exact (fun k_ hk => Nat.le_trans (turn_ks (by repeat (first | (with_reducible first | exact HK.out | apply Kept.alloc | apply Kept.drewN | apply Kept.drew) | exact HK.out))) hk)); (case aO => exact (by (with_reducible repeat (first | apply Kd.R_alloc | apply Kd.R_drewN | apply Kd.R_drew)); exact HL.out)); (case aS => exact (below_size (by repeat (first | (with_reducible first | exact HB.out | apply below_alloc | apply pw_below_drewN | apply below_drew1) | exact HB.out)))); (case aL => have := H5.out; omega); intro v46 w11 ho hb hg hat; have n0_ := Aside0.mk (blk_grown (g := gb) (o := .cells #[.int .i64 (rd_T44 l0 a1).f0, .string (rd_T44 l0 a1).f1, .slice (some ad3) (rd_T44 l0 a1).f2.length c2, .int .i64 (rd_T44 l0 a1).f3] 44 (0, 0)) (by (with_reducible repeat (first | refine blk_drewN ?_ _ | refine blk_drew ?_ | refine blk_alloc ?_ _)); exact BK.out) hg (Kd.R_ne HL.out BK.out (by decide))); have no_ := Aside0.mk (Kd.S_after (ok := (fun k_ => (P0_ k_ ∨ w.heap.size ≤ k_) ∧ k_ ≠ gb)) (by (with_reducible repeat (first | apply Kd.S_alloc | apply Kd.S_drewN | apply Kd.S_drew)); exact HO.out) hg hat); have nk_ := Aside0.mk (Kept.of_grown hg (by repeat (first | (with_reducible first | exact HK.out | apply Kept.alloc | apply Kept.drewN | apply Kept.drew) | exact HK.out)) (fun k_ hk => .inr (HL.out.1 k_ hk))); have nl_ := Aside0.mk ho; have nb_ := Aside0.mk hb; clear ho hb hg hat; clear BK HO HB HK HL; have BK := n0_; have HO := no_; have HB := nb_; have HK := nk_; have HL := nl_; clear n0_ no_ nb_ nk_ nl_))
          go_roundg k1
          case measure => have := HK1.out; omega
          case rel => exact ⟨o1, x8 ++ [wrap64 ((o1.length : Int) - 1)], wrap64 (x9 + 1), (by first | rfl | (simp; done) | (simp [*]; done)), H', ⟨by have := HK1.out; omega⟩, ⟨(by (with_reducible repeat (first | apply Kd.S_alloc | apply Kd.S_drewN | apply Kd.S_drew)); exact HO.out)⟩, ⟨(by (with_reducible repeat (first | apply Kd.R_alloc | apply Kd.R_drewN | apply Kd.R_drew)); exact HL.out)⟩, ⟨(by (with_reducible repeat (first | refine blk_drewN ?_ _ | refine blk_drew ?_ | refine blk_alloc ?_ _)); exact BK.out)⟩, ⟨(by repeat (first | (with_reducible first | exact HK.out | apply Kept.alloc | apply Kept.drewN | apply Kept.drew) | exact HK.out))⟩, ⟨(by repeat (first | (with_reducible first | exact HB.out | apply below_alloc | apply pw_below_drewN | apply below_drew1) | exact HB.out))⟩⟩
        · rw [if_neg cq] at H
          have cqb0 : ((rd_T44 l0 a1).f0 == 2) = false := beq_eq_false_iff_ne.mpr cq
          clear cq
          by_cases h3 : 0 ≤ x9
          case neg => rw [if_neg h3] at H; cases H
          rw [if_pos h3] at H
          by_cases h4 : x9 < ((rd_T44 l0 a1).f2.length : Int)
          case neg => rw [if_neg h4] at H; cases H
          rw [if_pos h4] at H
          obtain ⟨o1, hc, H⟩ := Option.bind_eq_some_iff.1 H
          by_cases h5 : x8.length + o1.length < 1000000
          case neg => rw [if_neg h5] at H; cases H
          rw [if_pos h5] at H
          have HC_ := Aside0.mk hc
          have H5 := Aside0.mk h5
          have H' := Aside0.mk H
          clear hc h5 H
          obtain ⟨ad3, e3, hx3_0⟩ := Kd.at_int HR2.out x9 h3 h4
          cases e3
          replace hx3_0 := (HB.out.cell (World.block_lt_of_cell? w0 _ hx3_0)).trans hx3_0
          have p3 := eq_true h3
          have q3 := eq_true h4
          clear h3 h4
          go_wp2_with (first | ((with_reducible refine gate_callee (f := 47) rfl ?_); refine goesL_ (some 40) rfl rfl Try.func47 (by kernel_rfl) rfl #[.slice (some ad1) l0.length c0, .int .i64 (rd (rd_T44 l0 a1).f2 x9), u2] rfl (by (try simp only [List.map_toArray, List.map_cons, List.map_nil]); first | done | rfl | (simp only [List.length_drop, List.length_take]; rfl)) ?_; (with_reducible refine (ih k1 ?sideL (some ad1) c0 l0 (rd (rd_T44 l0 a1).f2 x9) u2 x2 o1 (fun k_ => ((P0_ k_ ∨ w.heap.size ≤ k_) ∧ k_ ≠ gb) ∧ some k_ ≠ (u8 : Value).ownBlock) w0 _ ?side1 HR0.out HC0.out ?side2 HC_.out).mono ?_); (case sideL => have := HK1.out; omega); (case side1 => exact (by repeat (first | (with_reducible first | exact HB.out | apply below_alloc | apply pw_below_drewN | apply below_drew1) | exact HB.out))); (case side2 => exact (by (with_reducible repeat (first | apply Kd.S_alloc | apply Kd.S_drewN | apply Kd.S_drew)); exact HO.out)); rintro e w10 ⟨v5, rfl, ho, hb, hkp⟩; refine ⟨_, rfl, ?_⟩; obtain ⟨A5, c5, rfl⟩ := Kd.S_slice ho; have n0_ := Aside0.mk (blk_kept (g := gb) (o := .cells #[.int .i64 (rd_T44 l0 a1).f0, .string (rd_T44 l0 a1).f1, .slice (some ad3) (rd_T44 l0 a1).f2.length c2, .int .i64 (rd_T44 l0 a1).f3] 44 (0, 0)) (by (with_reducible repeat (first | refine blk_drewN ?_ _ | refine blk_drew ?_ | refine blk_alloc ?_ _)); exact BK.out) hkp (fun hs_ => hs_.1.2 rfl)); have hl8 : ∀ k_, (u8 : Value).ownBlock = some k_ → k_ < wr.heap.size := Kd.R_lt HL.out; have hl9 := blk_lt BK.out; have no_ := Aside0.mk (Kd.S_mono (ok' := (fun k_ => ((P0_ k_ ∨ w.heap.size ≤ k_) ∧ k_ ≠ gb) ∧ some k_ ≠ (u8 : Value).ownBlock)) ho (fun k_ hk => hk.elim id (fun hge => ⟨⟨.inr (Nat.le_trans (turn_ks (by repeat (first | (with_reducible first | exact HK.out | apply Kept.alloc | apply Kept.drewN | apply Kept.drew) | exact HK.out))) hge), fun e_ => Nat.lt_irrefl _ (Nat.lt_of_lt_of_le (e_ ▸ hl9) hge)⟩, fun e_ => Nat.lt_irrefl _ (Nat.lt_of_lt_of_le (hl8 k_ e_.symm) hge)⟩))); have nl_ := Aside0.mk (Kd.R_mono (ok' := fun k_ => w.heap.size ≤ k_) (Kd.R_kept (Kd.R_tight2 rfl (by (with_reducible repeat (first | apply Kd.R_alloc | apply Kd.R_drewN | apply Kd.R_drew)); exact HL.out)) hkp (fun k_ hk hs_ => hs_.2 hk.1)) (fun k_ hk => hk.2)); have nk_ := Aside0.mk (Kept.then_ (by repeat (first | (with_reducible first | exact HK.out | apply Kept.alloc | apply Kept.drewN | apply Kept.drew) | exact HK.out)) hkp (fun k_ hk => hk.1.1)); have nb_ := Aside0.mk hb; clear ho hb hkp hl8 hl9; clear BK HO HB HK HL; have BK := n0_; have HO := no_; have HB := nb_; have HK := nk_; have HL := nl_; clear n0_ no_ nb_ nk_ nl_) | ((with_reducible refine gate_builtin (b := .append) (xs := #[.tmp 41, .tmp 45]) rfl ?_); (try (refine gate_guard (by rfl) ?_; dsimp only)); at_builtin; refine Kd.R_append (Kd.int .i64) (w0 := w0) w0.heap.size rfl (.tmp 41) (.tmp 45) 41 2 (.int .i64 0) 8 rfl Try.underlying41 info2 rfl (by decide) (by omega) u8 x8 (wrap64 ((o1.length : Int) - 1)) [.int .i64 (wrap64 ((o1.length : Int) - 1))] (fun k_ => w.heap.size ≤ k_) (fun _ => False) rfl rfl ?aP (fun _ hk => hk.elim) ?aF ?aO ?aB ?aS ?aL ?_; (case aP => exact rfl); (case aB => exact (by repeat (first | (with_reducible first | exact HB.out | apply below_alloc | apply pw_below_drewN | apply below_drew1) | exact HB.out))); (case aF => exact (fun k_ hk => Nat.le_trans (turn_ks (by repeat (first | (with_reducible first | exact HK.out | apply Kept.alloc | apply Kept.drewN | apply Kept.drew) | exact HK.out))) hk)); (case aO => exact (by (with_reducible repeat (first | apply Kd.R_alloc | apply Kd.R_drewN | apply Kd.R_drew)); exact HL.out)); (case aS => exact (below_size (by repeat (first | (with_reducible first | exact HB.out | apply below_alloc | apply pw_below_drewN | apply below_drew1) | exact HB.out)))); (case aL => have := H5.out; omega); intro v46 w11 ho hb hg hat; have n0_ := Aside0.mk (blk_grown (g := gb) (o := .cells #[.int .i64 (rd_T44 l0 a1).f0, .string (rd_T44 l0 a1).f1, .slice (some ad3) (rd_T44 l0 a1).f2.length c2, .int .i64 (rd_T44 l0 a1).f3] 44 (0, 0)) (by (with_reducible repeat (first | refine blk_drewN ?_ _ | refine blk_drew ?_ | refine blk_alloc ?_ _)); exact BK.out) hg (Kd.R_ne HL.out BK.out (by decide))); have no_ := Aside0.mk (Kd.S_after (ok := (fun k_ => (P0_ k_ ∨ w.heap.size ≤ k_) ∧ k_ ≠ gb)) (by (with_reducible repeat (first | apply Kd.S_alloc | apply Kd.S_drewN | apply Kd.S_drew)); exact HO.out) hg hat); have nk_ := Aside0.mk (Kept.of_grown hg (by repeat (first | (with_reducible first | exact HK.out | apply Kept.alloc | apply Kept.drewN | apply Kept.drew) | exact HK.out)) (fun k_ hk => .inr (HL.out.1 k_ hk))); have nl_ := Aside0.mk ho; have nb_ := Aside0.mk hb; clear ho hb hg hat; clear BK HO HB HK HL; have BK := n0_; have HO := no_; have HB := nb_; have HK := nk_; have HL := nl_; clear n0_ no_ nb_ nk_ nl_))
          go_roundg k1
          case measure => have := HK1.out; omega
          case rel => exact ⟨o1, x8 ++ [wrap64 ((o1.length : Int) - 1)], wrap64 (x9 + 1), (by first | rfl | (simp; done) | (simp [*]; done)), H', ⟨by have := HK1.out; omega⟩, ⟨(by (with_reducible repeat (first | apply Kd.S_alloc | apply Kd.S_drewN | apply Kd.S_drew)); exact HO.out)⟩, ⟨(by (with_reducible repeat (first | apply Kd.R_alloc | apply Kd.R_drewN | apply Kd.R_drew)); exact HL.out)⟩, ⟨(by (with_reducible repeat (first | refine blk_drewN ?_ _ | refine blk_drew ?_ | refine blk_alloc ?_ _)); exact BK.out)⟩, ⟨(by repeat (first | (with_reducible first | exact HK.out | apply Kept.alloc | apply Kept.drewN | apply Kept.drew) | exact HK.out))⟩, ⟨(by repeat (first | (with_reducible first | exact HB.out | apply below_alloc | apply pw_below_drewN | apply below_drew1) | exact HB.out))⟩⟩
      · rw [if_neg hi] at H
        have c5b0 : decide (x9 < ((rd_T44 l0 a1).f2.length : Int)) = false := decide_eq_false hi
        clear hi
        obtain ⟨rfl, rfl⟩ : x2 = ro ∧ x8 = rk := by simpa using H
        clear H
        have hf := HF.out
        by_cases h6 : x2.length < 1000000
        case neg => rw [if_neg h6] at hf; cases hf
        rw [if_pos h6] at hf
        obtain rfl := Option.some.inj hf
        have H6 := Aside0.mk h6
        clear hf h6 HF
        obtain ⟨A8, c8, e8⟩ := Kd.R_slice HL.out
        subst e8
        go_wp2_with (first | ((with_reducible refine gate_builtin (b := .append) (xs := #[.tmp 47, .tmp 56]) rfl ?_); (try (refine gate_guard (by rfl) ?_; dsimp only)); at_builtin; refine Kd.S_append k44 (w0 := w0) w0.heap.size rfl (.tmp 47) (.tmp 56) 25 44 (.agg #[(.int .i64 0), (.string ⟨#[]⟩), (.slice none 0 0), (.int .i64 0)]) 56 rfl Try.underlying25 info44 rfl (by decide) (by omega) u2 x2 (⟨(rd_T44 l0 a1).f0, (rd_T44 l0 a1).f1, x8, (rd_T44 l0 a1).f3⟩ : S44) [.int .i64 (rd_T44 l0 a1).f0, .string (rd_T44 l0 a1).f1, .slice A8 x8.length c8, .int .i64 (rd_T44 l0 a1).f3] (fun k_ => (P0_ k_ ∨ w.heap.size ≤ k_)) (fun k_ => some k_ = (.slice A8 x8.length c8 : Value).ownBlock) rfl rfl ?aP ?aK ?aF ?aO ?aB ?aS ?aL ?_; (case aP => exact k44_mkM _ _ _ (⟨(rd_T44 l0 a1).f0, (rd_T44 l0 a1).f1, x8, (rd_T44 l0 a1).f3⟩ : S44) (Kd.R_tight rfl (by (with_reducible repeat (first | apply Kd.R_alloc | apply Kd.R_drewN | apply Kd.R_drew)); exact HL.out))); (case aK => exact (fun k_ hk => ⟨.inr (HL.out.1 k_ hk.symm), fun e_ => by obtain ⟨cl_, hcl⟩ := Kd.R_typed HL.out k_ hk.symm; exact (Kd.S_ne HO.out hcl (by decide)) e_⟩)); (case aB => exact (by repeat (first | (with_reducible first | exact HB.out | apply below_alloc | apply pw_below_drewN | apply below_drew1) | exact HB.out))); (case aF => exact (fun k_ hk => .inr (Nat.le_trans (turn_ks (by repeat (first | (with_reducible first | exact HK.out | apply Kept.alloc | apply Kept.drewN | apply Kept.drew) | exact HK.out))) hk))); (case aO => exact Kd.S_mono (ok := (fun k_ => ((P0_ k_ ∨ w.heap.size ≤ k_) ∧ k_ ≠ gb) ∧ some k_ ≠ ((.slice A8 x8.length c8) : Value).ownBlock)) (by (with_reducible repeat (first | apply Kd.S_alloc | apply Kd.S_drewN | apply Kd.S_drew)); exact HO.out) (fun k_ hk => ⟨hk.1.1, hk.2⟩)); (case aS => exact (below_size (by repeat (first | (with_reducible first | exact HB.out | apply below_alloc | apply pw_below_drewN | apply below_drew1) | exact HB.out)))); (case aL => have := H6.out; omega); intro v57 w12 ho hb hg hat; have nk_ := Aside0.mk (Kept.of_grown hg (by repeat (first | (with_reducible first | exact HK.out | apply Kept.alloc | apply Kept.drewN | apply Kept.drew) | exact HK.out)) (fun k_ hk => ((Kd.S_R HO.out).1 k_ hk).1.1)); have no_ := Aside0.mk ho; have nb_ := Aside0.mk hb; clear ho hb hg hat; clear HO HB HK; have HO := no_; have HB := nb_; have HK := nk_; clear no_ nb_ nk_))
        go_ret
        exact ⟨_, by first | rfl | (simp [*] <;> rfl), (by (with_reducible repeat (first | apply Kd.S_alloc | apply Kd.S_drewN | apply Kd.S_drew)); exact HO.out), (by repeat (first | (with_reducible first | exact HB.out | apply below_alloc | apply pw_below_drewN | apply below_drew1) | exact HB.out)), (by repeat (first | (with_reducible first | exact HK.out | apply Kept.alloc | apply Kept.drewN | apply Kept.drew) | exact HK.out))⟩

/-! ### spec_Turned: function 22 -/
def spec_Turned.f (k : Nat) (l0 : List S44) : Option (List S44 × Bool) := (spec_ParticleOk.f k l0).bind fun t => if t = true then ((spec_l8Turn.f k l0 (wrap64 ((l0.length : Int) - 1)) []).bind fun r => some (r, true)) else some ([], false)
set_option maxHeartbeats 8000000 in
set_option maxRecDepth 100000 in
theorem spec_Turned.calls (k : Nat) (A0 : Option Addr) (c0 : Nat) (l0 : List S44) (r1 : List S44) (r2 : Bool) (w : World) (hr0 : Kd.C k44 w A0 l0.length l0) (hc0 : l0.length ≤ c0) (h : spec_Turned.f k l0 = some (r1, r2)) :
    Calls Try.prog 22 #[.slice A0 l0.length c0] w fun e w' => ∃ v0_ : Value, e = .returned (.tuple #[v0_, .bool r2]) ∧ Kd.S k44 44 w' w.heap.size (fun _ => True) v0_ r1 ∧ Below w.heap.size w w' := by
  have hu44 := Try.underlying44
  have HR0 := Aside0.mk hr0
  have HC0 := Aside0.mk hc0
  have HB := Aside0.mk (Below.refl w.heap.size w)
  clear hr0 hc0
  obtain ⟨t, ht, h⟩ := Option.bind_eq_some_iff.1 h
  have HT := Aside0.mk ht
  clear ht
  cases t
  case true =>
    simp only [if_true] at h
    obtain ⟨r, hr, h⟩ := Option.bind_eq_some_iff.1 h
    have HQ := Aside0.mk hr
    clear hr
    simp only [Option.some.injEq, Prod.mk.injEq] at h
    obtain ⟨rfl, rfl⟩ := h
    obtain ⟨ji, hji⟩ : ∃ j_ : Int, wrap64 ((l0.length : Int) - 1) = j_ := ⟨_, rfl⟩
    rw [hji] at HQ
    have hjiw : IntKind.i64.wrap ((l0.length : Int) - 1) = ji := (i64_w _).trans hji
    go_enter Try.func22, Try.ntmps22
    go_wp2_with (first | ((with_reducible refine gate_callee (f := 10) rfl ?_); (try (refine gate_guard (by rfl) ?_; dsimp only)); refine goesL_ (some 5) rfl rfl Try.func10 (by kernel_rfl) rfl #[.slice A0 l0.length c0] rfl (by (try simp only [List.map_toArray, List.map_cons, List.map_nil]); first | done | rfl | (simp only [List.length_drop, List.length_take]; rfl)) ?_; (with_reducible refine (spec_ParticleOk.calls k A0 c0 l0 _ _ ?side1 HC0.out HT.out).mono ?_); (case side1 => exact Kd.C_below HR0.out (by repeat (first | (with_reducible first | exact HB.out | apply below_alloc | apply pw_below_drewN | apply below_drew1) | exact HB.out))); rintro e w1 ⟨rfl, hb⟩; refine ⟨_, rfl, ?_⟩; have nb_ := Aside0.mk (below_step (by repeat (first | (with_reducible first | exact HB.out | apply below_alloc | apply pw_below_drewN | apply below_drew1) | exact HB.out)) hb); clear hb HB; have HB := nb_; clear nb_) | ((with_reducible refine gate_callee (f := 47) rfl ?_); (try (refine gate_guard (by rfl) ?_; dsimp only)); refine goesL_ (some 11) rfl rfl Try.func47 (by kernel_rfl) rfl #[.slice A0 l0.length c0, .int .i64 ji, .slice none 0 0] rfl (by (try simp only [List.map_toArray, List.map_cons, List.map_nil]); first | done | (simp only [hji]; rfl) | rfl | (simp only [List.length_drop, List.length_take]; rfl)) ?_; (with_reducible refine (spec_l8Turn.calls k A0 c0 l0 ji (.slice none 0 0) [] r (fun _ => False) w1 _ ?side1 ?side2 HC0.out ?side3 HQ.out).mono ?_); (case side1 => exact (by repeat (first | (with_reducible first | exact Below.refl _ _ | apply below_alloc | apply pw_below_drewN | apply below_drew1) | exact Below.refl _ _))); (case side2 => exact Kd.C_below HR0.out HB.out); (case side3 => exact Kd.S_nil _ _ _ _ _); rintro e w2 ⟨v2, rfl, ho, hb, hkp⟩; refine ⟨_, rfl, ?_⟩; have no_ := Aside0.mk (Kd.S_mono (ok' := fun _ => True) (Kd.S_lower ho (below_size HB.out)) (fun _ _ => trivial)); have nb_ := Aside0.mk (below_step HB.out hb); clear ho hb hkp HB; have HO := no_; have HB := nb_; clear no_ nb_))
    go_ret2
    exact ⟨_, by first | rfl | (simp [*] <;> rfl), (by (with_reducible repeat (first | apply Kd.S_alloc | apply Kd.S_drewN | apply Kd.S_drew)); exact HO.out), (by repeat (first | (with_reducible first | exact HB.out | apply below_alloc | apply pw_below_drewN | apply below_drew1) | exact HB.out))⟩
  case false =>
    simp only [Bool.false_eq_true, if_false] at h
    simp only [Option.some.injEq, Prod.mk.injEq] at h
    obtain ⟨rfl, rfl⟩ := h
    go_enter Try.func22, Try.ntmps22
    go_wp2_with (first | ((with_reducible refine gate_callee (f := 10) rfl ?_); (try (refine gate_guard (by rfl) ?_; dsimp only)); refine goesL_ (some 5) rfl rfl Try.func10 (by kernel_rfl) rfl #[.slice A0 l0.length c0] rfl (by (try simp only [List.map_toArray, List.map_cons, List.map_nil]); first | done | rfl | (simp only [List.length_drop, List.length_take]; rfl)) ?_; (with_reducible refine (spec_ParticleOk.calls k A0 c0 l0 _ _ ?side1 HC0.out HT.out).mono ?_); (case side1 => exact Kd.C_below HR0.out (by repeat (first | (with_reducible first | exact HB.out | apply below_alloc | apply pw_below_drewN | apply below_drew1) | exact HB.out))); rintro e w1 ⟨rfl, hb⟩; refine ⟨_, rfl, ?_⟩; have nb_ := Aside0.mk (below_step (by repeat (first | (with_reducible first | exact HB.out | apply below_alloc | apply pw_below_drewN | apply below_drew1) | exact HB.out)) hb); clear hb HB; have HB := nb_; clear nb_))
    go_ret2
    exact ⟨_, by first | rfl | (simp [*] <;> rfl), Kd.S_nil _ _ _ _ _, (by repeat (first | (with_reducible first | exact HB.out | apply below_alloc | apply pw_below_drewN | apply below_drew1) | exact HB.out))⟩

/-! ### impl_in: function 35 -/
def impl_in.f (a0 : Int) (a1 : Int) (a2 : Int) : Option (Bool) := if a1 ≤ a0 then (some (decide (a0 ≤ a2))) else (some false)
set_option maxHeartbeats 8000000 in
set_option maxRecDepth 100000 in
theorem impl_in.calls (a0 : Int) (a1 : Int) (a2 : Int) (r : Bool) (w : World) (h : impl_in.f a0 a1 a2 = some r) :
  Calls Try.prog 35 #[.int .i64 a0, .int .i64 a1, .int .i64 a2] w fun e w' => e = .returned (.bool r) ∧ Drawn0 w w' := by
 have H : (if a1 ≤ a0 then (some (decide (a0 ≤ a2))) else (some false)) = some r := h
 clear h
 by_cases c4 : a1 ≤ a0
 ·rw [if_pos c4] at H
  have c4b0 : decide (a1 ≤ a0) = true := decide_eq_true c4
  clear c4
  obtain rfl := Option.some.inj H
  go_enter Try.func35, Try.ntmps35
  go_wp2
  go_ret
  exact ⟨by first | rfl | (simp; done) | (simp [*]; done), by repeat (first | exact Drawn0.refl _ | apply Drawn0.step)⟩
 ·rw [if_neg c4] at H
  have c4b0 : decide (a1 ≤ a0) = false := decide_eq_false c4
  clear c4
  obtain rfl := Option.some.inj H
  go_enter Try.func35, Try.ntmps35
  go_wp2
  go_ret
  exact ⟨by first | rfl | (simp; done) | (simp [*]; done), by repeat (first | exact Drawn0.refl _ | apply Drawn0.step)⟩

end Go.Proofs.Ytaliphegdclkfaa.PU
