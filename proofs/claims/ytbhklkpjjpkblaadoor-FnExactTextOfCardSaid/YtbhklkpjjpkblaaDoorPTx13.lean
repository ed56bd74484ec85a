-- Printed by this session's pdrive.py over the kit's printer.
import Derived.Test.YtbhklkpjjpkblaaDoorPTx0
import Derived.Test.YtbhklkpjjpkblaaDoorPTx1
import Derived.Test.YtbhklkpjjpkblaaDoorPTx2
import Derived.Test.YtbhklkpjjpkblaaDoorPTx7
import Derived.Test.YtbhklkpjjpkblaaDoorPTx12
namespace Go.Proofs.YtbhklkpjjpkblaaDoor.PT
open Go.RowKit Go.Proofs.YtbhklkpjjpkblaaDoorW.PrintWords Go.Proofs.YtbhklkpjjpkblaaDoorW.PrintLast Go.Proofs.YtbhklkpjjpkblaaDoorW.PrintMore Go.Proofs.YtbhklkpjjpkblaaDoorW.WordsB Go.Proofs.YtbhklkpjjpkblaaDoorW.GlM
attribute [local go_sem] max2_int min2_int max_two min_two max_three min_three max_four min_four   -- for this text's walks alone
set_option linter.unusedVariables false
set_option linter.unusedSimpArgs false

/-! ### impl_has: function 59 -/
def impl_has.f (k : Nat) (l0 : List (S74)) (a1 : Int) : Option (Bool) := (impl_DocOk.f k l0).bind fun t271 => (if t271 = true then ((impl_in.f a1 0 (wrap64 ((l0.length : Int) - 1))).bind fun t272 => (some t272)) else (some false))
theorem impl_has.mono : ∀ a0 a1 k, LeO (impl_has.f k a0 a1) (impl_has.f (k + 1) a0 a1) := by
 intro a0 a1 k
 unfold impl_has.f
 repeat' first
   | (with_reducible exact impl_DocOk.mono _ _)
   | (with_reducible exact LeO.refl _)
   | (with_reducible exact LeO.none _)
   | (with_reducible refine LeO.ite ?_ ?_)
   | (with_reducible refine LeO.bind ?_ (fun _ => ?_))
   | exact impl_DocOk.mono _ _
   | exact LeO.none _
   | refine LeO.ite ?_ ?_
   | refine LeO.bind ?_ (fun _ => ?_)
set_option maxHeartbeats 8000000 in
set_option maxRecDepth 100000 in
theorem impl_has.calls (k : Nat) (A0 : Option Addr) (c0 : Nat) (l0 : List (S74)) (a1 : Int) (r : Bool) (w : World) (hgl : GL w) (hr0 : Kd.C k74 w A0 l0.length l0) (hc0 : l0.length ≤ c0) (h : impl_has.f k l0 a1 = some r) :
  Calls Tryd.prog 59 #[.slice A0 l0.length c0, .int .i64 a1] w fun e w' => e = .returned (.bool r) ∧ Below w.heap.size w w' := by
 have HGL := Aside0.mk hgl
 clear hgl
 have HR0 := Aside0.mk hr0
 have HC0 := Aside0.mk hc0
 clear hr0 hc0
 have HB := Aside0.mk (Below.refl w.heap.size w)
 have H : ((impl_DocOk.f k l0).bind fun t271 => (if t271 = true then ((impl_in.f a1 0 (wrap64 ((l0.length : Int) - 1))).bind fun t272 => (some t272)) else (some false))) = some r := h
 clear h
 replace H := Option.bind_eq_some_iff.mp H
 obtain ⟨t271, A30, H⟩ := H
 replace H : (if t271 = true then ((impl_in.f a1 0 (wrap64 ((l0.length : Int) - 1))).bind fun t272 => (some t272)) else (some false)) = some r := H
 have A3 := Aside0.mk A30
 clear A30
 by_cases c4 : t271 = true
 ·subst c4
  have H1 : ((impl_in.f a1 0 (wrap64 ((l0.length : Int) - 1))).bind fun t272 => (some t272)) = some r := by rw [if_pos rfl] at H; exact H
  clear H
  have H := H1
  clear H1
  replace H := Option.bind_eq_some_iff.mp H
  obtain ⟨t272, A50, H⟩ := H
  replace H : (some t272) = some r := H
  have A5 := Aside0.mk A50
  clear A50
  obtain rfl := Option.some.inj H
  go_enter Tryd.func59, Tryd.ntmps59
  go_wp2_with (first | ((with_reducible refine gate_callee (f := 18) rfl ?_); refine goesL_ (some 6) rfl rfl Tryd.func18 (by kernel_rfl) rfl #[.slice A0 l0.length c0] rfl (by (try simp only [List.map_toArray, List.map_cons, List.map_nil]); first | done | rfl | (simp only [List.length_drop, List.length_take]; rfl)) ?_; (with_reducible refine (impl_DocOk.calls k _ _ l0 true _ ?side1 ?side2 ?side3 A3.out).mono ?_); (case side1 => exact GL.below HGL.out (by repeat (first | (with_reducible first | exact HB.out | apply below_alloc | apply pw_below_drewN | apply below_drew1) | exact HB.out))); (case side2 => repeat (first | exact HR0.out | (with_reducible refine Kd.C_alloc ?_ _) | (with_reducible refine Kd.C_drewN ?_ _) | (with_reducible refine Kd.C_drew ?_))); (case side3 => exact HC0.out); rintro e w6 ⟨rfl, hb⟩; refine ⟨_, rfl, ?_⟩; have n0_ := Aside0.mk (below_step (by repeat (first | (with_reducible first | exact HB.out | apply below_alloc | apply pw_below_drewN | apply below_drew1) | exact HB.out)) hb); clear HB; have HB := n0_; clear n0_; (try clear hb); (try clear hb2); (try clear hk); (try clear hi)) | (go_at_call 54; (with_reducible refine (impl_in.calls a1 0 (wrap64 ((l0.length : Int) - 1)) t272 _ A5.out).mono ?_); rintro e w' ⟨rfl, ⟨nd, rfl⟩⟩))
  go_ret
  exact ⟨by first | rfl | (simp [*] <;> rfl), by repeat (first | (with_reducible first | exact HB.out | apply below_alloc | apply pw_below_drewN | apply below_drew1) | exact HB.out)⟩
 ·replace c4 := Bool.eq_false_iff.mpr c4
  subst c4
  have H1 : (some false) = some r := by rw [if_neg (show ¬ (false = true) by decide)] at H; exact H
  clear H
  have H := H1
  clear H1
  obtain rfl := Option.some.inj H
  go_enter Tryd.func59, Tryd.ntmps59
  go_wp2_with (first | ((with_reducible refine gate_callee (f := 18) rfl ?_); refine goesL_ (some 6) rfl rfl Tryd.func18 (by kernel_rfl) rfl #[.slice A0 l0.length c0] rfl (by (try simp only [List.map_toArray, List.map_cons, List.map_nil]); first | done | rfl | (simp only [List.length_drop, List.length_take]; rfl)) ?_; (with_reducible refine (impl_DocOk.calls k _ _ l0 false _ ?side1 ?side2 ?side3 A3.out).mono ?_); (case side1 => exact GL.below HGL.out (by repeat (first | (with_reducible first | exact HB.out | apply below_alloc | apply pw_below_drewN | apply below_drew1) | exact HB.out))); (case side2 => repeat (first | exact HR0.out | (with_reducible refine Kd.C_alloc ?_ _) | (with_reducible refine Kd.C_drewN ?_ _) | (with_reducible refine Kd.C_drew ?_))); (case side3 => exact HC0.out); rintro e w7 ⟨rfl, hb⟩; refine ⟨_, rfl, ?_⟩; have n0_ := Aside0.mk (below_step (by repeat (first | (with_reducible first | exact HB.out | apply below_alloc | apply pw_below_drewN | apply below_drew1) | exact HB.out)) hb); clear HB; have HB := n0_; clear n0_; (try clear hb); (try clear hb2); (try clear hk); (try clear hi)))
  go_ret
  exact ⟨by first | rfl | (simp [*] <;> rfl), by repeat (first | (with_reducible first | exact HB.out | apply below_alloc | apply pw_below_drewN | apply below_drew1) | exact HB.out)⟩

/-! ### impl_textBelow: function 62 -/
def impl_textBelow.cat (l : List S74) (n : Int) : List UInt8 := l.flatMap fun x => if x.f0 = n then x.f2.data.toList else []
def impl_textBelow.f (l0 : List S74) (a1 : Int) : Option ByteArray := if (impl_textBelow.cat l0 a1).length ≤ 100000000 then some ⟨(impl_textBelow.cat l0 a1).toArray⟩ else none
theorem impl_textBelow.keep {T e : TypeId} {B b : Nat} {bs : List Value} {w w' : World} (h : Lib.IsBuilderF T e B b bs w) (hb : Below w.heap.size w w') : Lib.IsBuilderF T e B b bs w' := by
  have main : ∀ p, Lib.BuilderAtF T e B b p bs w → Lib.BuilderAtF T e B b p bs w' := by
    intro p hp
    have hlt := hp.lt
    obtain ⟨hB, v, hbk, hown, hne⟩ := hp
    refine ⟨hB, v, (hb.block b hlt).trans hbk, ⟨hown.1, ?_⟩, hne⟩
    rcases hown.2 with hn | ⟨g, cap, cur, fz, hv, hbg, hg, rest⟩
    · exact .inl hn
    · exact .inr ⟨g, cap, cur, fz, hv, hbg, (hb.block g (Array.getElem?_eq_some_iff.1 hg).1).trans hg, rest⟩
  exact h.elim (fun x => .inl (main _ x)) (fun x => .inr (main _ x))
theorem impl_textBelow.start {T e : TypeId} {B b : Nat} {w : World} (hB : B ≤ b) (hbk : w.heap[b]? = some (.cells #[.pointer none, .slice none 0 0] T (0, 0))) : Lib.IsBuilderF T e B b (Lib.byteCells []) w :=
  .inl ⟨hB, .slice none 0 0, hbk, World.ownsRowF_nil w B e 1, by simp [Value.ownBlock]⟩
theorem impl_textBelow.cat_drop (l : List S74) (n : Int) (x : Int) (h0 : 0 ≤ x) (h : x < (l.length : Int)) : impl_textBelow.cat (l.drop x.toNat) n = (if (rd_T74 l x).f0 = n then (rd_T74 l x).f2.data.toList else []) ++ impl_textBelow.cat (l.drop (x + 1).toNat) n := by
  obtain ⟨i, rfl⟩ := Int.eq_ofNat_of_zero_le h0
  have hi : i < l.length := by omega
  have e : rd_T74 l (i : Int) = l[i] := by unfold rd_T74; simp [List.getD_eq_getElem?_getD, hi]
  rw [e, Int.toNat_natCast, show ((i : Int) + 1).toNat = i + 1 by omega]
  unfold impl_textBelow.cat
  rw [List.drop_eq_getElem_cons hi, List.flatMap_cons]
set_option maxHeartbeats 8000000 in
set_option maxRecDepth 100000 in
theorem impl_textBelow.calls (A0 : Option Addr) (c0 : Nat) (l0 : List S74) (a1 : Int) (r : ByteArray) (w : World) (hr0 : Kd.C k74 w A0 l0.length l0) (hc0 : l0.length ≤ c0) (h : impl_textBelow.f l0 a1 = some r) :
    Calls Tryd.prog 62 #[.slice A0 l0.length c0, .int .i64 a1] w fun e w' => e = .returned (.string r) ∧ Below w.heap.size w w' := by
  have hu74 := Tryd.underlying74
  have HR0 := Aside0.mk hr0
  have HC0 := Aside0.mk hc0
  clear hr0 hc0
  have HB := Aside0.mk (Below.refl w.heap.size w)
  unfold impl_textBelow.f at h
  split at h
  case isFalse => cases h
  rename_i hlim
  have HLIM := Aside0.mk hlim
  clear hlim
  obtain rfl := Option.some.inj h
  clear h
  go_enter Tryd.func62, Tryd.ntmps62
  go_wp2_with (first | ((with_reducible refine gate_dst (N := 9) rfl ?_); (try (refine gate_guard (by rfl) ?_; dsimp only)); refine box_event ?hg (N := 9) ?hd (cs := #[.pointer none, .slice none 0 0]) (t := 55) ?hr ?_; (case hd => rfl); (case hg => rfl); (case hr => first | (go_simp; done) | (go_simp; rfl)); intro gbB hg w2 hbox hb; have n1_ := Aside0.mk (below_step (by repeat (first | (with_reducible first | exact HB.out | apply below_alloc | apply pw_below_drewN | apply below_drew1) | exact HB.out)) hb); have n3_ : Aside0 (Lib.IsBuilderF 55 5 w.heap.size gbB (Lib.byteCells []) w2) := Aside0.mk (impl_textBelow.start (by rw [hg]; exact below_size (by repeat (first | (with_reducible first | exact HB.out | apply below_alloc | apply pw_below_drewN | apply below_drew1) | exact HB.out))) hbox); clear HB; have HB := n1_; have HBd := n3_; clear n1_ n3_ hb hbox hg))
  go_loopg [12] (l0.length + 1) (fun kq v12 w' => ∃ (x : Int) (acc : List UInt8), v12 = .int .i64 x ∧ Aside0 (0 ≤ x ∧ x ≤ (l0.length : Int) ∧ (l0.length : Int) < (kq : Int) + x) ∧ Aside0 (acc ++ impl_textBelow.cat (l0.drop x.toNat) a1 = impl_textBelow.cat l0 a1) ∧ Aside0 (Lib.IsBuilderF 55 5 w.heap.size gbB (Lib.byteCells acc) w') ∧ Aside0 (Below w.heap.size w w'))
  case atStart => exact ⟨0, [], (by first | rfl | (simp; done) | (simp [*]; done)), ⟨by omega, by omega, by omega⟩, ⟨rfl⟩, ⟨impl_textBelow.keep HBd.out (by repeat (first | exact Below.refl _ _ | apply below_alloc | apply pw_below_drewN | apply below_drew1))⟩, ⟨(by repeat (first | (with_reducible first | exact HB.out | apply below_alloc | apply pw_below_drewN | apply below_drew1) | exact HB.out))⟩⟩
  case round =>
    clear HBd HB
    obtain ⟨x, acc, rfl, HI, HA, HBd, HB⟩ := hrel
    have HBo := Aside0.mk (Below.refl wr.heap.size wr)
    have hlen0 : l0.length ≤ 9223372036854775807 := HR0.out.2.1
    by_cases hi : x < (l0.length : Int)
    · have c10b0 : decide (x < (l0.length : Int)) = true := decide_eq_true hi
      have c11b0 : decide (0 ≤ x) = true := decide_eq_true HI.out.1
      have p231 : 0 ≤ x := HI.out.1
      have q231 : x < (l0.length : Int) := hi
      have hcat := impl_textBelow.cat_drop l0 a1 x p231 hi
      have hA := HA.out
      rw [hcat] at hA
      have hlim := HLIM.out
      rw [← hA] at hlim
      obtain ⟨ad231, A3, c3, e231, hx231_0, hx231_1, hx231_2, hx231_3, hl231_3, hi231_3⟩ := at_T74 HR0.out x p231 q231
      cases e231
      replace hx231_0 := (HB.out.cell (World.block_lt_of_cell? w _ hx231_0)).trans hx231_0
      replace hx231_1 := (HB.out.cell (World.block_lt_of_cell? w _ hx231_1)).trans hx231_1
      replace hx231_2 := (HB.out.cell (World.block_lt_of_cell? w _ hx231_2)).trans hx231_2
      replace hx231_3 := (HB.out.cell (World.block_lt_of_cell? w _ hx231_3)).trans hx231_3
      clear hi231_3 hl231_3 hcat
      replace p231 := eq_true p231
      replace q231 := eq_true q231
      have HIl := Aside0.mk hi
      have HLl := Aside0.mk hlen0
      clear hi hlen0
      have ew : wrap64 (x + 1) = x + 1 := by have := HI.out; have := HIl.out; have := HLl.out; unfold wrap64; omega
      by_cases c : (rd_T74 l0 x).f0 = a1
      · have cb : ((rd_T74 l0 x).f0 == a1) = true := beq_iff_eq.mpr c
        rw [if_pos c] at hA hlim
        have HA2 := Aside0.mk hA
        have HW : Aside0 (acc.length + (rd_T74 l0 x).f2.size ≤ 100000000) := Aside0.mk (by rw [List.length_append, List.length_append, data_length] at hlim; omega)
        clear hA hlim c
        go_wp2_with (first | ((with_reducible refine gate_dst (N := 7) rfl ?_); (try (refine gate_guard (by rfl) ?_; dsimp only)); refine box_event ?hg (N := 7) ?hd (cs := #[.int .i64 0, .string (⟨#[]⟩ : ByteArray), .string (⟨#[]⟩ : ByteArray), .slice none 0 0]) (t := 74) ?hr ?_; (case hd => rfl); (case hg => rfl); (case hr => first | (go_simp; done) | (go_simp; rfl)); intro gbx hg w7 hbox hb; have n1_ := Aside0.mk (below_step (by repeat (first | (with_reducible first | exact HB.out | apply below_alloc | apply pw_below_drewN | apply below_drew1) | exact HB.out)) hb); have n2_ := Aside0.mk (below_step (by repeat (first | (with_reducible first | exact HBo.out | apply below_alloc | apply pw_below_drewN | apply below_drew1) | exact HBo.out)) hb); have n3_ := Aside0.mk hbox; have n4_ : Aside0 (w.heap.size ≤ gbx) := Aside0.mk (by rw [hg]; exact below_size (by repeat (first | (with_reducible first | exact HB.out | apply below_alloc | apply pw_below_drewN | apply below_drew1) | exact HB.out))); have n5_ : Aside0 (wr.heap.size ≤ gbx) := Aside0.mk (by rw [hg]; exact below_size (by repeat (first | (with_reducible first | exact HBo.out | apply below_alloc | apply pw_below_drewN | apply below_drew1) | exact HBo.out))); clear HB HBo; have HB := n1_; have HBo := n2_; have BK := n3_; have GE := n4_; have GO := n5_; clear n1_ n2_ n3_ n4_ n5_ hb hbox hg; have hcza_0 : w7.cell? ⟨gbx, 0, none⟩ = some (.int .i64 0) := (blk_cell BK.out 0).trans rfl; have hfza_0 := blk_frozen BK.out 0; have hcza_1 : w7.cell? ⟨gbx, 1, none⟩ = some (.string (⟨#[]⟩ : ByteArray)) := (blk_cell BK.out 1).trans rfl; have hfza_1 := blk_frozen BK.out 1; have hcza_2 : w7.cell? ⟨gbx, 2, none⟩ = some (.string (⟨#[]⟩ : ByteArray)) := (blk_cell BK.out 2).trans rfl; have hfza_2 := blk_frozen BK.out 2; have hcza_3 : w7.cell? ⟨gbx, 3, none⟩ = some (.slice none 0 0) := (blk_cell BK.out 3).trans rfl; have hfza_3 := blk_frozen BK.out 3) | ((with_reducible refine gate_store (t := 74) (p := 7) rfl ?_); (try (rw [drewN_self w7]; generalize hq_ : World.drewN w7 _ = w7; have n0_ := Aside0.mk (blk_at hq_ BK.out); have n1_ := Aside0.mk (below_at hq_ HB.out); have n2_ := Aside0.mk (below_at hq_ HBo.out); clear hq_ BK HB HBo; have BK := n0_; have HB := n1_; have HBo := n2_; clear n0_ n1_ n2_)); refine store_event (t := 74) (p := 7) (v := ?vo) (w1 := ((((w7.setCell ⟨gbx, 0, none⟩ (.int .i64 (rd_T74 l0 x).f0)).setCell ⟨gbx, 1, none⟩ (.string (rd_T74 l0 x).f1)).setCell ⟨gbx, 2, none⟩ (.string (rd_T74 l0 x).f2)).setCell ⟨gbx, 3, none⟩ (.slice A3 (rd_T74 l0 x).f3.length c3))) ?hg ?ho ?hn ?hr ?_; (case ho => rfl); (case hg => rfl); (case hn => rfl); (case hr => first | (go_simp; done) | (go_simp; rfl)); intro w8 hw; have n0_ : Aside0 (w8.heap[gbx]? = some (.cells #[.int .i64 (rd_T74 l0 x).f0, .string (rd_T74 l0 x).f1, .string (rd_T74 l0 x).f2, .slice A3 (rd_T74 l0 x).f3.length c3] 74 (0, 0))) := ⟨(by rw [hw]; exact (by refine blk_put (cs := #[.int .i64 (rd_T74 l0 x).f0, .string (rd_T74 l0 x).f1, .string (rd_T74 l0 x).f2, .slice none 0 0]) ?_ 3 _ rfl; refine blk_put (cs := #[.int .i64 (rd_T74 l0 x).f0, .string (rd_T74 l0 x).f1, .string (⟨#[]⟩ : ByteArray), .slice none 0 0]) ?_ 2 _ rfl; refine blk_put (cs := #[.int .i64 (rd_T74 l0 x).f0, .string (⟨#[]⟩ : ByteArray), .string (⟨#[]⟩ : ByteArray), .slice none 0 0]) ?_ 1 _ rfl; refine blk_put (cs := #[.int .i64 0, .string (⟨#[]⟩ : ByteArray), .string (⟨#[]⟩ : ByteArray), .slice none 0 0]) ?_ 0 _ rfl; exact BK.out))⟩; have n1_ : Aside0 (Below w.heap.size w w8) := ⟨(by rw [hw]; exact (by repeat (first | (with_reducible first | exact HB.out | apply below_alloc | apply pw_below_drewN | apply below_drew1 | refine below_set ?_ GE.out) | exact HB.out)))⟩; have n2_ : Aside0 (Below wr.heap.size wr w8) := ⟨(by rw [hw]; exact (by repeat (first | (with_reducible first | exact HBo.out | apply below_alloc | apply pw_below_drewN | apply below_drew1 | refine below_set ?_ GO.out) | exact HBo.out)))⟩; clear hw BK HB HBo; have BK := n0_; have HB := n1_; have HBo := n2_; clear n0_ n1_ n2_; have hczb_0 : w8.cell? ⟨gbx, 0, none⟩ = some (.int .i64 (rd_T74 l0 x).f0) := (blk_cell BK.out 0).trans rfl; have hfzb_0 := blk_frozen BK.out 0; have hczb_1 : w8.cell? ⟨gbx, 1, none⟩ = some (.string (rd_T74 l0 x).f1) := (blk_cell BK.out 1).trans rfl; have hfzb_1 := blk_frozen BK.out 1; have hczb_2 : w8.cell? ⟨gbx, 2, none⟩ = some (.string (rd_T74 l0 x).f2) := (blk_cell BK.out 2).trans rfl; have hfzb_2 := blk_frozen BK.out 2; have hczb_3 : w8.cell? ⟨gbx, 3, none⟩ = some (.slice A3 (rd_T74 l0 x).f3.length c3) := (blk_cell BK.out 3).trans rfl; have hfzb_3 := blk_frozen BK.out 3) | (go_at_call 42; (refine (Any.Builder_WriteString_k Tryd.laysB166 Tryd.laysB_X w.heap.size gbB (Lib.byteCells acc) (rd_T74 l0 x).f2 _ ?s1 ?s2 ?s3).mono ?_); (case s1 => exact impl_textBelow.keep HBd.out (by repeat (first | (with_reducible first | exact HBo.out | apply below_alloc | apply pw_below_drewN | apply below_drew1 | refine below_set ?_ GO.out) | exact HBo.out))); (case s2 => rw [Lib.byteCells_length]; have := HW.out; omega); (case s3 => exact below_size (by repeat (first | (with_reducible first | exact HB.out | apply below_alloc | apply pw_below_drewN | apply below_drew1 | refine below_set ?_ GE.out) | exact HB.out))); rintro e w9 ⟨rfl, hbu, hb, hk⟩; have n1_ : Aside0 (Below w.heap.size w w9) := ⟨Below.trans (by repeat (first | (with_reducible first | exact HB.out | apply below_alloc | apply pw_below_drewN | apply below_drew1 | refine below_set ?_ GE.out) | exact HB.out)) hb⟩; have n2_ := Aside0.mk ((Or.inr hbu : Lib.IsBuilderF _ _ _ _ _ _)); clear HB hb hbu hk; have HB := n1_; have HBn := n2_; clear n1_ n2_))
        go_roundg (l0.length - x.toNat)
        case measure => have := HI.out; have := HIl.out; omega
        case rel => exact ⟨x + 1, acc ++ (rd_T74 l0 x).f2.data.toList, (by first | rfl | (simp; done) | (simp [*]; done)), ⟨by have := HI.out; omega, by have := HIl.out; omega, by have := HIl.out; have := HI.out; omega⟩, ⟨by rw [List.append_assoc]; exact HA2.out⟩, ⟨by rw [Lib.byteCells_append]; exact HBn.out⟩, ⟨HB.out⟩⟩
      · have cb : ((rd_T74 l0 x).f0 == a1) = false := beq_eq_false_iff_ne.mpr c
        rw [if_neg c] at hA
        have HA2 := Aside0.mk hA
        clear hA hlim c
        go_wp2_with (first | ((with_reducible refine gate_dst (N := 7) rfl ?_); (try (refine gate_guard (by rfl) ?_; dsimp only)); refine box_event ?hg (N := 7) ?hd (cs := #[.int .i64 0, .string (⟨#[]⟩ : ByteArray), .string (⟨#[]⟩ : ByteArray), .slice none 0 0]) (t := 74) ?hr ?_; (case hd => rfl); (case hg => rfl); (case hr => first | (go_simp; done) | (go_simp; rfl)); intro gbx hg w7 hbox hb; have n1_ := Aside0.mk (below_step (by repeat (first | (with_reducible first | exact HB.out | apply below_alloc | apply pw_below_drewN | apply below_drew1) | exact HB.out)) hb); have n2_ := Aside0.mk (below_step (by repeat (first | (with_reducible first | exact HBo.out | apply below_alloc | apply pw_below_drewN | apply below_drew1) | exact HBo.out)) hb); have n3_ := Aside0.mk hbox; have n4_ : Aside0 (w.heap.size ≤ gbx) := Aside0.mk (by rw [hg]; exact below_size (by repeat (first | (with_reducible first | exact HB.out | apply below_alloc | apply pw_below_drewN | apply below_drew1) | exact HB.out))); have n5_ : Aside0 (wr.heap.size ≤ gbx) := Aside0.mk (by rw [hg]; exact below_size (by repeat (first | (with_reducible first | exact HBo.out | apply below_alloc | apply pw_below_drewN | apply below_drew1) | exact HBo.out))); clear HB HBo; have HB := n1_; have HBo := n2_; have BK := n3_; have GE := n4_; have GO := n5_; clear n1_ n2_ n3_ n4_ n5_ hb hbox hg; have hcza_0 : w7.cell? ⟨gbx, 0, none⟩ = some (.int .i64 0) := (blk_cell BK.out 0).trans rfl; have hfza_0 := blk_frozen BK.out 0; have hcza_1 : w7.cell? ⟨gbx, 1, none⟩ = some (.string (⟨#[]⟩ : ByteArray)) := (blk_cell BK.out 1).trans rfl; have hfza_1 := blk_frozen BK.out 1; have hcza_2 : w7.cell? ⟨gbx, 2, none⟩ = some (.string (⟨#[]⟩ : ByteArray)) := (blk_cell BK.out 2).trans rfl; have hfza_2 := blk_frozen BK.out 2; have hcza_3 : w7.cell? ⟨gbx, 3, none⟩ = some (.slice none 0 0) := (blk_cell BK.out 3).trans rfl; have hfza_3 := blk_frozen BK.out 3) | ((with_reducible refine gate_store (t := 74) (p := 7) rfl ?_); (try (rw [drewN_self w7]; generalize hq_ : World.drewN w7 _ = w7; have n0_ := Aside0.mk (blk_at hq_ BK.out); have n1_ := Aside0.mk (below_at hq_ HB.out); have n2_ := Aside0.mk (below_at hq_ HBo.out); clear hq_ BK HB HBo; have BK := n0_; have HB := n1_; have HBo := n2_; clear n0_ n1_ n2_)); refine store_event (t := 74) (p := 7) (v := ?vo) (w1 := ((((w7.setCell ⟨gbx, 0, none⟩ (.int .i64 (rd_T74 l0 x).f0)).setCell ⟨gbx, 1, none⟩ (.string (rd_T74 l0 x).f1)).setCell ⟨gbx, 2, none⟩ (.string (rd_T74 l0 x).f2)).setCell ⟨gbx, 3, none⟩ (.slice A3 (rd_T74 l0 x).f3.length c3))) ?hg ?ho ?hn ?hr ?_; (case ho => rfl); (case hg => rfl); (case hn => rfl); (case hr => first | (go_simp; done) | (go_simp; rfl)); intro w8 hw; have n0_ : Aside0 (w8.heap[gbx]? = some (.cells #[.int .i64 (rd_T74 l0 x).f0, .string (rd_T74 l0 x).f1, .string (rd_T74 l0 x).f2, .slice A3 (rd_T74 l0 x).f3.length c3] 74 (0, 0))) := ⟨(by rw [hw]; exact (by refine blk_put (cs := #[.int .i64 (rd_T74 l0 x).f0, .string (rd_T74 l0 x).f1, .string (rd_T74 l0 x).f2, .slice none 0 0]) ?_ 3 _ rfl; refine blk_put (cs := #[.int .i64 (rd_T74 l0 x).f0, .string (rd_T74 l0 x).f1, .string (⟨#[]⟩ : ByteArray), .slice none 0 0]) ?_ 2 _ rfl; refine blk_put (cs := #[.int .i64 (rd_T74 l0 x).f0, .string (⟨#[]⟩ : ByteArray), .string (⟨#[]⟩ : ByteArray), .slice none 0 0]) ?_ 1 _ rfl; refine blk_put (cs := #[.int .i64 0, .string (⟨#[]⟩ : ByteArray), .string (⟨#[]⟩ : ByteArray), .slice none 0 0]) ?_ 0 _ rfl; exact BK.out))⟩; have n1_ : Aside0 (Below w.heap.size w w8) := ⟨(by rw [hw]; exact (by repeat (first | (with_reducible first | exact HB.out | apply below_alloc | apply pw_below_drewN | apply below_drew1 | refine below_set ?_ GE.out) | exact HB.out)))⟩; have n2_ : Aside0 (Below wr.heap.size wr w8) := ⟨(by rw [hw]; exact (by repeat (first | (with_reducible first | exact HBo.out | apply below_alloc | apply pw_below_drewN | apply below_drew1 | refine below_set ?_ GO.out) | exact HBo.out)))⟩; clear hw BK HB HBo; have BK := n0_; have HB := n1_; have HBo := n2_; clear n0_ n1_ n2_; have hczb_0 : w8.cell? ⟨gbx, 0, none⟩ = some (.int .i64 (rd_T74 l0 x).f0) := (blk_cell BK.out 0).trans rfl; have hfzb_0 := blk_frozen BK.out 0; have hczb_1 : w8.cell? ⟨gbx, 1, none⟩ = some (.string (rd_T74 l0 x).f1) := (blk_cell BK.out 1).trans rfl; have hfzb_1 := blk_frozen BK.out 1; have hczb_2 : w8.cell? ⟨gbx, 2, none⟩ = some (.string (rd_T74 l0 x).f2) := (blk_cell BK.out 2).trans rfl; have hfzb_2 := blk_frozen BK.out 2; have hczb_3 : w8.cell? ⟨gbx, 3, none⟩ = some (.slice A3 (rd_T74 l0 x).f3.length c3) := (blk_cell BK.out 3).trans rfl; have hfzb_3 := blk_frozen BK.out 3))
        go_roundg (l0.length - x.toNat)
        case measure => have := HI.out; have := HIl.out; omega
        case rel => exact ⟨x + 1, acc, (by first | rfl | (simp; done) | (simp [*]; done)), ⟨by have := HI.out; omega, by have := HIl.out; omega, by have := HIl.out; have := HI.out; omega⟩, ⟨HA2.out⟩, ⟨impl_textBelow.keep HBd.out (by repeat (first | (with_reducible first | exact HBo.out | apply below_alloc | apply pw_below_drewN | apply below_drew1 | refine below_set ?_ GO.out) | exact HBo.out))⟩, ⟨(by repeat (first | (with_reducible first | exact HB.out | apply below_alloc | apply pw_below_drewN | apply below_drew1 | refine below_set ?_ GE.out) | exact HB.out))⟩⟩
    · have c10b0 : decide (x < (l0.length : Int)) = false := decide_eq_false hi
      have hA := HA.out
      rw [List.drop_eq_nil_of_le (by have := HI.out; omega)] at hA
      have hA : acc = impl_textBelow.cat l0 a1 := by simpa [impl_textBelow.cat] using hA
      subst hA
      clear hi
      go_wp2_with (go_at_call 43; (refine (Any.Builder_String_any_k Tryd.laysB169 Tryd.laysB_X w.heap.size gbB (impl_textBelow.cat l0 a1) _ ?s1 ?s3).mono ?_); (case s1 => exact impl_textBelow.keep HBd.out (by repeat (first | (with_reducible first | exact HBo.out | apply below_alloc | apply pw_below_drewN | apply below_drew1) | exact HBo.out))); (case s3 => exact below_size (by repeat (first | (with_reducible first | exact HB.out | apply below_alloc | apply pw_below_drewN | apply below_drew1) | exact HB.out))); rintro e w9 ⟨rfl, _, hb, _⟩; have n1_ : Aside0 (Below w.heap.size w w9) := ⟨Below.trans (by repeat (first | (with_reducible first | exact HB.out | apply below_alloc | apply pw_below_drewN | apply below_drew1) | exact HB.out)) hb⟩; clear HB hb; have HB := n1_; clear n1_)
      go_ret
      exact ⟨by first | rfl | (simp; done) | (simp [*]; done), (by repeat (first | (with_reducible first | exact HB.out | apply below_alloc | apply pw_below_drewN | apply below_drew1) | exact HB.out))⟩

/-! ### impl_TextOf: function 23 -/
def impl_TextOf.f (k : Nat) (l0 : List (S74)) (a1 : Int) : Option (ByteArray × Bool) := (impl_has.f k l0 a1).bind fun t273 => (if t273 = true then (if 0 ≤ a1 then (if a1 < (l0.length : Int) then (if ((rd_T74 l0 a1).f1).toList = ([] : List UInt8) then (some ((⟨#[]⟩ : ByteArray), false)) else ((impl_textBelow.f l0 a1).bind fun t275 => (some (t275, true)))) else (none)) else (none)) else (some ((⟨#[]⟩ : ByteArray), false)))
theorem impl_TextOf.mono : ∀ a0 a1 k, LeO (impl_TextOf.f k a0 a1) (impl_TextOf.f (k + 1) a0 a1) := by
 intro a0 a1 k
 unfold impl_TextOf.f
 repeat' first
   | (with_reducible exact impl_has.mono _ _ _)
   | (with_reducible exact LeO.refl _)
   | (with_reducible exact LeO.none _)
   | (with_reducible refine LeO.ite ?_ ?_)
   | (with_reducible refine LeO.bind ?_ (fun _ => ?_))
   | exact impl_has.mono _ _ _
   | exact LeO.none _
   | refine LeO.ite ?_ ?_
   | refine LeO.bind ?_ (fun _ => ?_)
set_option maxHeartbeats 8000000 in
set_option maxRecDepth 100000 in
theorem impl_TextOf.calls (k : Nat) (A0 : Option Addr) (c0 : Nat) (l0 : List (S74)) (a1 : Int) (r1 : ByteArray) (r2 : Bool) (w : World) (hgl : GL w) (hr0 : Kd.C k74 w A0 l0.length l0) (hc0 : l0.length ≤ c0) (h : impl_TextOf.f k l0 a1 = some (r1, r2)) :
  Calls Tryd.prog 23 #[.slice A0 l0.length c0, .int .i64 a1] w fun e w' => e = .returned (.tuple #[.string r1, .bool r2]) ∧ Below w.heap.size w w' := by
 have HGL := Aside0.mk hgl
 clear hgl
 have HR0 := Aside0.mk hr0
 have HC0 := Aside0.mk hc0
 clear hr0 hc0
 have HB := Aside0.mk (Below.refl w.heap.size w)
 have H : ((impl_has.f k l0 a1).bind fun t273 => (if t273 = true then (if 0 ≤ a1 then (if a1 < (l0.length : Int) then (if ((rd_T74 l0 a1).f1).toList = ([] : List UInt8) then (some ((⟨#[]⟩ : ByteArray), false)) else ((impl_textBelow.f l0 a1).bind fun t275 => (some (t275, true)))) else (none)) else (none)) else (some ((⟨#[]⟩ : ByteArray), false)))) = some (r1, r2) := h
 clear h
 replace H := Option.bind_eq_some_iff.mp H
 obtain ⟨t273, A30, H⟩ := H
 replace H : (if t273 = true then (if 0 ≤ a1 then (if a1 < (l0.length : Int) then (if ((rd_T74 l0 a1).f1).toList = ([] : List UInt8) then (some ((⟨#[]⟩ : ByteArray), false)) else ((impl_textBelow.f l0 a1).bind fun t275 => (some (t275, true)))) else (none)) else (none)) else (some ((⟨#[]⟩ : ByteArray), false))) = some (r1, r2) := H
 have A3 := Aside0.mk A30
 clear A30
 by_cases c4 : t273 = true
 ·subst c4
  have H1 : (if 0 ≤ a1 then (if a1 < (l0.length : Int) then (if ((rd_T74 l0 a1).f1).toList = ([] : List UInt8) then (some ((⟨#[]⟩ : ByteArray), false)) else ((impl_textBelow.f l0 a1).bind fun t275 => (some (t275, true)))) else (none)) else (none)) = some (r1, r2) := by rw [if_pos rfl] at H; exact H
  clear H
  have H := H1
  clear H1
  by_cases c5 : 0 ≤ a1
  ·rw [if_pos c5] at H
   have c5b0 : decide (0 ≤ a1) = true := decide_eq_true c5
   clear c5
   by_cases c6 : a1 < (l0.length : Int)
   ·rw [if_pos c6] at H
    have c6b0 : decide (a1 < (l0.length : Int)) = true := decide_eq_true c6
    clear c6
    by_cases c7 : ((rd_T74 l0 a1).f1).toList = ([] : List UInt8)
    ·rw [if_pos c7] at H
     have c7b0 : (((rd_T74 l0 a1).f1).toList == ([] : List UInt8)) = true := beq_iff_eq.mpr c7
     have c7b1 : (((rd_T74 l0 a1).f1).toList != ([] : List UInt8)) = false := bne_eq_false_iff_eq.mpr c7
     have c7b2 : (((rd_T74 l0 a1).f1)).toList.isEmpty = true := by (first | exact (List.isEmpty_iff.mpr (eq_of_beq c7b0)) | exact (Bool.eq_false_iff.mpr (fun h_ => by rw [List.isEmpty_iff.mp h_] at c7b0; cases c7b0)))
     clear c7
     simp only [Option.some.injEq, Prod.mk.injEq] at H
     obtain ⟨rfl, rfl⟩ := H
     go_enter Tryd.func23, Tryd.ntmps23
     go_wp2_with (first | ((with_reducible refine gate_callee (f := 59) rfl ?_); refine goesL_ (some 8) rfl rfl Tryd.func59 (by kernel_rfl) rfl #[.slice A0 l0.length c0, .int .i64 a1] rfl (by (try simp only [List.map_toArray, List.map_cons, List.map_nil]); first | done | rfl | (simp only [List.length_drop, List.length_take]; rfl)) ?_; (with_reducible refine (impl_has.calls k _ _ l0 a1 true _ ?side1 ?side2 ?side3 A3.out).mono ?_); (case side1 => exact GL.below HGL.out (by repeat (first | (with_reducible first | exact HB.out | apply below_alloc | apply pw_below_drewN | apply below_drew1) | exact HB.out))); (case side2 => repeat (first | exact HR0.out | (with_reducible refine Kd.C_alloc ?_ _) | (with_reducible refine Kd.C_drewN ?_ _) | (with_reducible refine Kd.C_drew ?_))); (case side3 => exact HC0.out); rintro e w8 ⟨rfl, hb⟩; refine ⟨_, rfl, ?_⟩; have n0_ := Aside0.mk (below_step (by repeat (first | (with_reducible first | exact HB.out | apply below_alloc | apply pw_below_drewN | apply below_drew1) | exact HB.out)) hb); clear HB; have HB := n0_; clear n0_; (try clear hb); (try clear hb2); (try clear hk); (try clear hi); have p274 : 0 ≤ (a1 : Int) := of_decide_eq_true (by first | (with_reducible assumption) | assumption); have q274 : a1 < (l0.length : Int) := of_decide_eq_true (by first | (with_reducible assumption) | assumption); obtain ⟨ad274, A274_3, c274_3, e274, hx274_0, hx274_1, hx274_2, hx274_3, hl274_3, hi274_3⟩ := at_T74 HR0.out a1 p274 q274; cases e274; replace hx274_0 := (HB.out.cell (World.block_lt_of_cell? w _ hx274_0)).trans hx274_0; replace hx274_1 := (HB.out.cell (World.block_lt_of_cell? w _ hx274_1)).trans hx274_1; replace hx274_2 := (HB.out.cell (World.block_lt_of_cell? w _ hx274_2)).trans hx274_2; replace hx274_3 := (HB.out.cell (World.block_lt_of_cell? w _ hx274_3)).trans hx274_3; have HR274_3 := Aside0.mk hi274_3; have HC274_3 := Aside0.mk hl274_3; clear hi274_3 hl274_3; replace p274 := eq_true p274; replace q274 := eq_true q274))
     go_ret2
     exact ⟨by first | rfl | (simp [*] <;> rfl), by repeat (first | (with_reducible first | exact HB.out | apply below_alloc | apply pw_below_drewN | apply below_drew1) | exact HB.out)⟩
    ·rw [if_neg c7] at H
     have c7b0 : (((rd_T74 l0 a1).f1).toList == ([] : List UInt8)) = false := beq_eq_false_iff_ne.mpr c7
     have c7b1 : (((rd_T74 l0 a1).f1).toList != ([] : List UInt8)) = true := bne_iff_ne.mpr c7
     have c7b2 : (((rd_T74 l0 a1).f1)).toList.isEmpty = false := by (first | exact (List.isEmpty_iff.mpr (eq_of_beq c7b0)) | exact (Bool.eq_false_iff.mpr (fun h_ => by rw [List.isEmpty_iff.mp h_] at c7b0; cases c7b0)))
     replace H := Option.bind_eq_some_iff.mp H
     obtain ⟨t275, A90, H⟩ := H
     replace H : (some (t275, true)) = some (r1, r2) := H
     have A9 := Aside0.mk A90
     clear A90
     simp only [Option.some.injEq, Prod.mk.injEq] at H
     obtain ⟨rfl, rfl⟩ := H
     go_enter Tryd.func23, Tryd.ntmps23
     go_wp2_with (first | ((with_reducible refine gate_callee (f := 59) rfl ?_); refine goesL_ (some 8) rfl rfl Tryd.func59 (by kernel_rfl) rfl #[.slice A0 l0.length c0, .int .i64 a1] rfl (by (try simp only [List.map_toArray, List.map_cons, List.map_nil]); first | done | rfl | (simp only [List.length_drop, List.length_take]; rfl)) ?_; (with_reducible refine (impl_has.calls k _ _ l0 a1 true _ ?side1 ?side2 ?side3 A3.out).mono ?_); (case side1 => exact GL.below HGL.out (by repeat (first | (with_reducible first | exact HB.out | apply below_alloc | apply pw_below_drewN | apply below_drew1) | exact HB.out))); (case side2 => repeat (first | exact HR0.out | (with_reducible refine Kd.C_alloc ?_ _) | (with_reducible refine Kd.C_drewN ?_ _) | (with_reducible refine Kd.C_drew ?_))); (case side3 => exact HC0.out); rintro e w10 ⟨rfl, hb⟩; refine ⟨_, rfl, ?_⟩; have n0_ := Aside0.mk (below_step (by repeat (first | (with_reducible first | exact HB.out | apply below_alloc | apply pw_below_drewN | apply below_drew1) | exact HB.out)) hb); clear HB; have HB := n0_; clear n0_; (try clear hb); (try clear hb2); (try clear hk); (try clear hi); have p274 : 0 ≤ (a1 : Int) := of_decide_eq_true (by first | (with_reducible assumption) | assumption); have q274 : a1 < (l0.length : Int) := of_decide_eq_true (by first | (with_reducible assumption) | assumption); obtain ⟨ad274, A274_3, c274_3, e274, hx274_0, hx274_1, hx274_2, hx274_3, hl274_3, hi274_3⟩ := at_T74 HR0.out a1 p274 q274; cases e274; replace hx274_0 := (HB.out.cell (World.block_lt_of_cell? w _ hx274_0)).trans hx274_0; replace hx274_1 := (HB.out.cell (World.block_lt_of_cell? w _ hx274_1)).trans hx274_1; replace hx274_2 := (HB.out.cell (World.block_lt_of_cell? w _ hx274_2)).trans hx274_2; replace hx274_3 := (HB.out.cell (World.block_lt_of_cell? w _ hx274_3)).trans hx274_3; have HR274_3 := Aside0.mk hi274_3; have HC274_3 := Aside0.mk hl274_3; clear hi274_3 hl274_3; replace p274 := eq_true p274; replace q274 := eq_true q274) | ((with_reducible refine gate_callee (f := 62) rfl ?_); refine goesL_ (some 20) rfl rfl Tryd.func62 (by kernel_rfl) rfl #[.slice (some ad274) l0.length c0, .int .i64 a1] rfl (by (try simp only [List.map_toArray, List.map_cons, List.map_nil]); first | done | rfl | (simp only [List.length_drop, List.length_take]; rfl)) ?_; (with_reducible refine (impl_textBelow.calls _ _ l0 a1 t275 _ ?side1 ?side2 A9.out).mono ?_); (case side1 => repeat (first | exact (Kd.C_below HR0.out HB.out) | (with_reducible refine Kd.C_alloc ?_ _) | (with_reducible refine Kd.C_drewN ?_ _) | (with_reducible refine Kd.C_drew ?_))); (case side2 => exact HC0.out); rintro e w11 ⟨rfl, hb⟩; refine ⟨_, rfl, ?_⟩; have n0_ := Aside0.mk (below_step (by repeat (first | (with_reducible first | exact HB.out | apply below_alloc | apply pw_below_drewN | apply below_drew1) | exact HB.out)) hb); clear HB; have HB := n0_; clear n0_; (try clear hb); (try clear hb2); (try clear hk); (try clear hi)))
     go_ret2
     exact ⟨by first | rfl | (simp [*] <;> rfl), by repeat (first | (with_reducible first | exact HB.out | apply below_alloc | apply pw_below_drewN | apply below_drew1) | exact HB.out)⟩
   ·rw [if_neg c6] at H
    exact absurd H (by simp)
  ·rw [if_neg c5] at H
   exact absurd H (by simp)
 ·replace c4 := Bool.eq_false_iff.mpr c4
  subst c4
  have H1 : (some ((⟨#[]⟩ : ByteArray), false)) = some (r1, r2) := by rw [if_neg (show ¬ (false = true) by decide)] at H; exact H
  clear H
  have H := H1
  clear H1
  simp only [Option.some.injEq, Prod.mk.injEq] at H
  obtain ⟨rfl, rfl⟩ := H
  go_enter Tryd.func23, Tryd.ntmps23
  go_wp2_with (first | ((with_reducible refine gate_callee (f := 59) rfl ?_); refine goesL_ (some 8) rfl rfl Tryd.func59 (by kernel_rfl) rfl #[.slice A0 l0.length c0, .int .i64 a1] rfl (by (try simp only [List.map_toArray, List.map_cons, List.map_nil]); first | done | rfl | (simp only [List.length_drop, List.length_take]; rfl)) ?_; (with_reducible refine (impl_has.calls k _ _ l0 a1 false _ ?side1 ?side2 ?side3 A3.out).mono ?_); (case side1 => exact GL.below HGL.out (by repeat (first | (with_reducible first | exact HB.out | apply below_alloc | apply pw_below_drewN | apply below_drew1) | exact HB.out))); (case side2 => repeat (first | exact HR0.out | (with_reducible refine Kd.C_alloc ?_ _) | (with_reducible refine Kd.C_drewN ?_ _) | (with_reducible refine Kd.C_drew ?_))); (case side3 => exact HC0.out); rintro e w12 ⟨rfl, hb⟩; refine ⟨_, rfl, ?_⟩; have n0_ := Aside0.mk (below_step (by repeat (first | (with_reducible first | exact HB.out | apply below_alloc | apply pw_below_drewN | apply below_drew1) | exact HB.out)) hb); clear HB; have HB := n0_; clear n0_; (try clear hb); (try clear hb2); (try clear hk); (try clear hi)))
  go_ret2
  exact ⟨by first | rfl | (simp [*] <;> rfl), by repeat (first | (with_reducible first | exact HB.out | apply below_alloc | apply pw_below_drewN | apply below_drew1) | exact HB.out)⟩

/-! ### laws_FnExactTextOf: function 7 -/
def laws_FnExactTextOf.j0 : Nat → List (S71) → List (S74) → Bool → Option (Bool)
 | 0, _, _, _ => none
 | k + 1, x0, x8, x38 => if x38 = true then (some false) else ((laws_toItemS.f k x0).bind fun t287 => ((laws_eqItemS.f k x8 t287).bind fun t290 => (if t290 = true then (some true) else (some false))))
def laws_FnExactTextOf.f (k : Nat) (l0 : List (S71)) (a1 : Int) : Option (Bool) := (laws_szItemS.f k l0 1048576).bind fun t276 => (if t276 < 0 then (some true) else ((laws_toItemS.f k l0).bind fun t277 => ((spec_TextOf.f k t277 a1).bind fun bt280 => ((laws_toItemS.f k l0).bind fun t282 => ((impl_TextOf.f k t282 a1).bind fun bt285 => (if bt285.1.toList = bt280.1.toList then (laws_FnExactTextOf.j0 k l0 t282 (bt285.2 != bt280.2)) else (laws_FnExactTextOf.j0 k l0 t282 true)))))))
theorem laws_FnExactTextOf.mono_l : ∀ k, (∀ y0 y1 y2, LeO (laws_FnExactTextOf.j0 k y0 y1 y2) (laws_FnExactTextOf.j0 (k + 1) y0 y1 y2))
 | 0 => fun _ _ _ r h => by simp [laws_FnExactTextOf.j0] at h
 | k + 1 => by
  have ih0 := laws_FnExactTextOf.mono_l k
  ·intro y0 y1 y2
   unfold laws_FnExactTextOf.j0
   repeat' first
   | (with_reducible exact ih0 _ _ _)
   | (with_reducible exact impl_TextOf.mono _ _ _)
   | (with_reducible exact laws_eqItemS.mono _ _ _)
   | (with_reducible exact laws_szItemS.mono _ _ _)
   | (with_reducible exact laws_toItemS.mono _ _)
   | (with_reducible exact spec_TextOf.mono _ _ _)
   | (with_reducible exact LeO.refl _)
   | (with_reducible exact LeO.none _)
   | (with_reducible refine LeO.ite ?_ ?_)
   | (with_reducible refine LeO.bind ?_ (fun _ => ?_))
   | exact ih0 _ _ _
   | exact impl_TextOf.mono _ _ _
   | exact laws_eqItemS.mono _ _ _
   | exact laws_szItemS.mono _ _ _
   | exact laws_toItemS.mono _ _
   | exact spec_TextOf.mono _ _ _
   | exact LeO.none _
   | refine LeO.ite ?_ ?_
   | refine LeO.bind ?_ (fun _ => ?_)
theorem laws_FnExactTextOf.mono : ∀ a0 a1 k, LeO (laws_FnExactTextOf.f k a0 a1) (laws_FnExactTextOf.f (k + 1) a0 a1) := by
 intro a0 a1 k
 have ih0 := laws_FnExactTextOf.mono_l k
 unfold laws_FnExactTextOf.f
 repeat' first
   | (with_reducible exact ih0 _ _ _)
   | (with_reducible exact impl_TextOf.mono _ _ _)
   | (with_reducible exact laws_eqItemS.mono _ _ _)
   | (with_reducible exact laws_szItemS.mono _ _ _)
   | (with_reducible exact laws_toItemS.mono _ _)
   | (with_reducible exact spec_TextOf.mono _ _ _)
   | (with_reducible exact LeO.refl _)
   | (with_reducible exact LeO.none _)
   | (with_reducible refine LeO.ite ?_ ?_)
   | (with_reducible refine LeO.bind ?_ (fun _ => ?_))
   | exact ih0 _ _ _
   | exact impl_TextOf.mono _ _ _
   | exact laws_eqItemS.mono _ _ _
   | exact laws_szItemS.mono _ _ _
   | exact laws_toItemS.mono _ _
   | exact spec_TextOf.mono _ _ _
   | exact LeO.none _
   | refine LeO.ite ?_ ?_
   | refine LeO.bind ?_ (fun _ => ?_)
set_option maxHeartbeats 8000000 in
set_option maxRecDepth 100000 in
theorem laws_FnExactTextOf.calls (k : Nat) (A0 : Option Addr) (c0 : Nat) (l0 : List (S71)) (a1 : Int) (r : Bool) (w : World) (hgl : GL w) (hr0 : Kd.C k71 w A0 l0.length l0) (hc0 : l0.length ≤ c0) (h : laws_FnExactTextOf.f k l0 a1 = some r) :
  Calls Tryd.prog 7 #[.slice A0 l0.length c0, .int .i64 a1] w fun e w' => e = .returned (.bool r) ∧ Below w.heap.size w w' := by
 have HGL := Aside0.mk hgl
 clear hgl
 have HR0 := Aside0.mk hr0
 have HC0 := Aside0.mk hc0
 clear hr0 hc0
 have HB := Aside0.mk (Below.refl w.heap.size w)
 have H : ((laws_szItemS.f k l0 1048576).bind fun t276 => (if t276 < 0 then (some true) else ((laws_toItemS.f k l0).bind fun t277 => ((spec_TextOf.f k t277 a1).bind fun bt280 => ((laws_toItemS.f k l0).bind fun t282 => ((impl_TextOf.f k t282 a1).bind fun bt285 => (if bt285.1.toList = bt280.1.toList then (laws_FnExactTextOf.j0 k l0 t282 (bt285.2 != bt280.2)) else (laws_FnExactTextOf.j0 k l0 t282 true)))))))) = some r := h
 clear h
 replace H := Option.bind_eq_some_iff.mp H
 obtain ⟨t276, A30, H⟩ := H
 replace H : (if t276 < 0 then (some true) else ((laws_toItemS.f k l0).bind fun t277 => ((spec_TextOf.f k t277 a1).bind fun bt280 => ((laws_toItemS.f k l0).bind fun t282 => ((impl_TextOf.f k t282 a1).bind fun bt285 => (if bt285.1.toList = bt280.1.toList then (laws_FnExactTextOf.j0 k l0 t282 (bt285.2 != bt280.2)) else (laws_FnExactTextOf.j0 k l0 t282 true))))))) = some r := H
 have A3 := Aside0.mk A30
 clear A30
 by_cases c4 : t276 < 0
 ·rw [if_pos c4] at H
  have c4b0 : decide (t276 < 0) = true := decide_eq_true c4
  clear c4
  obtain rfl := Option.some.inj H
  go_enter Tryd.func7, Tryd.ntmps7
  go_wp2_with (first | ((with_reducible refine gate_callee (f := 15) rfl ?_); refine goesL_ (some 13) rfl rfl Tryd.func15 (by kernel_rfl) rfl #[.slice A0 l0.length c0, .int .i64 1048576] rfl (by (try simp only [List.map_toArray, List.map_cons, List.map_nil]); first | done | rfl | (simp only [List.length_drop, List.length_take]; rfl)) ?_; (with_reducible refine (laws_szItemS.calls k _ _ l0 1048576 t276 _ ?side1 ?side2 A3.out).mono ?_); (case side1 => repeat (first | exact HR0.out | (with_reducible refine Kd.C_alloc ?_ _) | (with_reducible refine Kd.C_drewN ?_ _) | (with_reducible refine Kd.C_drew ?_))); (case side2 => exact HC0.out); rintro e w5 ⟨rfl, hb⟩; refine ⟨_, rfl, ?_⟩; have n0_ := Aside0.mk (below_step (by repeat (first | (with_reducible first | exact HB.out | apply below_alloc | apply pw_below_drewN | apply below_drew1) | exact HB.out)) hb); clear HB; have HB := n0_; clear n0_; (try clear hb); (try clear hb2); (try clear hk); (try clear hi)))
  go_ret
  exact ⟨by first | rfl | (simp [*] <;> rfl), by repeat (first | (with_reducible first | exact HB.out | apply below_alloc | apply pw_below_drewN | apply below_drew1) | exact HB.out)⟩
 ·rw [if_neg c4] at H
  have c4b0 : decide (t276 < 0) = false := decide_eq_false c4
  clear c4
  replace H := Option.bind_eq_some_iff.mp H
  obtain ⟨t277, A60, H⟩ := H
  replace H : ((spec_TextOf.f k t277 a1).bind fun bt280 => ((laws_toItemS.f k l0).bind fun t282 => ((impl_TextOf.f k t282 a1).bind fun bt285 => (if bt285.1.toList = bt280.1.toList then (laws_FnExactTextOf.j0 k l0 t282 (bt285.2 != bt280.2)) else (laws_FnExactTextOf.j0 k l0 t282 true))))) = some r := H
  have A6 := Aside0.mk A60
  clear A60
  replace H := Option.bind_eq_some_iff.mp H
  obtain ⟨⟨t280, t281⟩, A70, H⟩ := H
  replace H : ((laws_toItemS.f k l0).bind fun t282 => ((impl_TextOf.f k t282 a1).bind fun bt285 => (if bt285.1.toList = t280.toList then (laws_FnExactTextOf.j0 k l0 t282 (bt285.2 != t281)) else (laws_FnExactTextOf.j0 k l0 t282 true)))) = some r := H
  have A7 := Aside0.mk A70
  clear A70
  replace H := Option.bind_eq_some_iff.mp H
  obtain ⟨t282, A80, H⟩ := H
  replace H : ((impl_TextOf.f k t282 a1).bind fun bt285 => (if bt285.1.toList = t280.toList then (laws_FnExactTextOf.j0 k l0 t282 (bt285.2 != t281)) else (laws_FnExactTextOf.j0 k l0 t282 true))) = some r := H
  have A8 := Aside0.mk A80
  clear A80
  replace H := Option.bind_eq_some_iff.mp H
  obtain ⟨⟨t285, t286⟩, A90, H⟩ := H
  replace H : (if t285.toList = t280.toList then (laws_FnExactTextOf.j0 k l0 t282 (t286 != t281)) else (laws_FnExactTextOf.j0 k l0 t282 true)) = some r := H
  have A9 := Aside0.mk A90
  clear A90
  have HC10 := Aside0.mk H
  clear H
  go_enter Tryd.func7, Tryd.ntmps7
  go_upto_region 8 with (first | ((with_reducible refine gate_callee (f := 15) rfl ?_); refine goesL_ (some 13) rfl rfl Tryd.func15 (by kernel_rfl) rfl #[.slice A0 l0.length c0, .int .i64 1048576] rfl (by (try simp only [List.map_toArray, List.map_cons, List.map_nil]); first | done | rfl | (simp only [List.length_drop, List.length_take]; rfl)) ?_; (with_reducible refine (laws_szItemS.calls k _ _ l0 1048576 t276 _ ?side1 ?side2 A3.out).mono ?_); (case side1 => repeat (first | exact HR0.out | (with_reducible refine Kd.C_alloc ?_ _) | (with_reducible refine Kd.C_drewN ?_ _) | (with_reducible refine Kd.C_drew ?_))); (case side2 => exact HC0.out); rintro e w11 ⟨rfl, hb⟩; refine ⟨_, rfl, ?_⟩; have n0_ := Aside0.mk (below_step (by repeat (first | (with_reducible first | exact HB.out | apply below_alloc | apply pw_below_drewN | apply below_drew1) | exact HB.out)) hb); clear HB; have HB := n0_; clear n0_; (try clear hb); (try clear hb2); (try clear hk); (try clear hi)) | ((with_reducible refine gate_callee (f := 17) rfl ?_); refine goesL_ (some 18) rfl rfl Tryd.func17 (by kernel_rfl) rfl #[.slice A0 l0.length c0] rfl (by (try simp only [List.map_toArray, List.map_cons, List.map_nil]); first | done | rfl | (simp only [List.length_drop, List.length_take]; rfl)) ?_; (with_reducible refine (laws_toItemS.calls k _ _ l0 t277 _ ?side1 ?side2 A6.out).mono ?_); (case side1 => repeat (first | exact (Kd.C_below HR0.out HB.out) | (with_reducible refine Kd.C_alloc ?_ _) | (with_reducible refine Kd.C_drewN ?_ _) | (with_reducible refine Kd.C_drew ?_))); (case side2 => exact HC0.out); rintro e w12 ⟨v278, rfl, ho0, hb⟩; refine ⟨_, rfl, ?_⟩; have n0_ := Aside0.mk (Kd.S_lower ho0 (below_size (by repeat (first | (with_reducible first | exact HB.out | apply below_alloc | apply pw_below_drewN | apply below_drew1) | exact HB.out)))); have n1_ := Aside0.mk (below_step (by repeat (first | (with_reducible first | exact HB.out | apply below_alloc | apply pw_below_drewN | apply below_drew1) | exact HB.out)) hb); clear HB; have HO279 := n0_; have HB := n1_; clear n0_ n1_; (try clear hb); (try clear hb2); (try clear hk); (try clear hi); (try clear ho0); obtain ⟨Ao13, co13, eo13⟩ := Kd.S_slice HO279.out; subst eo13) | ((with_reducible refine gate_callee (f := 22) rfl ?_); refine goesL_ (some 20) rfl rfl Tryd.func22 (by kernel_rfl) rfl #[.slice Ao13 t277.length co13, .int .i64 a1] rfl (by (try simp only [List.map_toArray, List.map_cons, List.map_nil]); first | done | rfl | (simp only [List.length_drop, List.length_take]; rfl)) ?_; (with_reducible refine (spec_TextOf.calls k _ _ t277 a1 t280 t281 _ ?side1 ?side2 A7.out).mono ?_); (case side1 => repeat (first | exact (Kd.S_reads' HO279.out).2.2 | (with_reducible refine Kd.C_alloc ?_ _) | (with_reducible refine Kd.C_drewN ?_ _) | (with_reducible refine Kd.C_drew ?_))); (case side2 => exact (Kd.S_reads' HO279.out).2.1); rintro e w14 ⟨rfl, hb⟩; refine ⟨_, rfl, ?_⟩; have n0_ := Aside0.mk (Kd.S_below (by (with_reducible repeat (first | apply Kd.S_alloc | apply Kd.S_drewN | apply Kd.S_drew)); exact HO279.out) hb); have n1_ := Aside0.mk (below_step (by repeat (first | (with_reducible first | exact HB.out | apply below_alloc | apply pw_below_drewN | apply below_drew1) | exact HB.out)) hb); clear HO279; clear HB; have HO279 := n0_; have HB := n1_; clear n0_ n1_; (try clear hb); (try clear hb2); (try clear hk); (try clear hi)) | ((with_reducible refine gate_callee (f := 17) rfl ?_); refine goesL_ (some 24) rfl rfl Tryd.func17 (by kernel_rfl) rfl #[.slice A0 l0.length c0] rfl (by (try simp only [List.map_toArray, List.map_cons, List.map_nil]); first | done | rfl | (simp only [List.length_drop, List.length_take]; rfl)) ?_; (with_reducible refine (laws_toItemS.calls k _ _ l0 t282 _ ?side1 ?side2 A8.out).mono ?_); (case side1 => repeat (first | exact (Kd.C_below HR0.out HB.out) | (with_reducible refine Kd.C_alloc ?_ _) | (with_reducible refine Kd.C_drewN ?_ _) | (with_reducible refine Kd.C_drew ?_))); (case side2 => exact HC0.out); rintro e w15 ⟨v283, rfl, ho0, hb⟩; refine ⟨_, rfl, ?_⟩; have n0_ := Aside0.mk (Kd.S_elder' (by (with_reducible repeat (first | apply Kd.S_alloc | apply Kd.S_drewN | apply Kd.S_drew)); exact HO279.out) (Kd.S_base ho0) hb); have n1_ := Aside0.mk (Kd.S_lower (Kd.S_new' ho0 (Kd.S_lt (by (with_reducible repeat (first | apply Kd.S_alloc | apply Kd.S_drewN | apply Kd.S_drew)); exact HO279.out))) (below_size (by repeat (first | (with_reducible first | exact HB.out | apply below_alloc | apply pw_below_drewN | apply below_drew1) | exact HB.out)))); have n2_ := Aside0.mk (below_step (by repeat (first | (with_reducible first | exact HB.out | apply below_alloc | apply pw_below_drewN | apply below_drew1) | exact HB.out)) hb); clear HO279; clear HB; have HO279 := n0_; have HO284 := n1_; have HB := n2_; clear n0_ n1_ n2_; (try clear hb); (try clear hb2); (try clear hk); (try clear hi); (try clear ho0); obtain ⟨Ao16, co16, eo16⟩ := Kd.S_slice HO284.out; subst eo16) | ((with_reducible refine gate_callee (f := 23) rfl ?_); refine goesL_ (some 28) rfl rfl Tryd.func23 (by kernel_rfl) rfl #[.slice Ao16 t282.length co16, .int .i64 a1] rfl (by (try simp only [List.map_toArray, List.map_cons, List.map_nil]); first | done | rfl | (simp only [List.length_drop, List.length_take]; rfl)) ?_; (with_reducible refine (impl_TextOf.calls k _ _ t282 a1 t285 t286 _ ?side1 ?side2 ?side3 A9.out).mono ?_); (case side1 => exact GL.below HGL.out (by repeat (first | (with_reducible first | exact HB.out | apply below_alloc | apply pw_below_drewN | apply below_drew1) | exact HB.out))); (case side2 => repeat (first | exact (Kd.S_reads' HO284.out).2.2 | (with_reducible refine Kd.C_alloc ?_ _) | (with_reducible refine Kd.C_drewN ?_ _) | (with_reducible refine Kd.C_drew ?_))); (case side3 => exact (Kd.S_reads' HO284.out).2.1); rintro e w17 ⟨rfl, hb⟩; refine ⟨_, rfl, ?_⟩; have n0_ := Aside0.mk (Kd.S_below (by (with_reducible repeat (first | apply Kd.S_alloc | apply Kd.S_drewN | apply Kd.S_drew)); exact HO279.out) hb); have n1_ := Aside0.mk (Kd.S_below (by (with_reducible repeat (first | apply Kd.S_alloc | apply Kd.S_drewN | apply Kd.S_drew)); exact HO284.out) hb); have n2_ := Aside0.mk (below_step (by repeat (first | (with_reducible first | exact HB.out | apply below_alloc | apply pw_below_drewN | apply below_drew1) | exact HB.out)) hb); clear HO279; clear HO284; clear HB; have HO279 := n0_; have HO284 := n1_; have HB := n2_; clear n0_ n1_ n2_; (try clear hb); (try clear hb2); (try clear hk); (try clear hi)))
  (try simp only [Act.put, List.setIfInBounds_toArray, List.set_cons_zero, List.set_cons_succ])
  go_cut [38] (fun v38 wc => ∃ (kq : Nat) (x38_9 : Bool), v38 = .bool x38_9 ∧ Aside0 (laws_FnExactTextOf.j0 kq l0 t282 x38_9 = some r) ∧ Aside0 (kq ≤ k) ∧ Aside0 (Kd.S k74 74 wc w.heap.size (fun _ => True) (.slice Ao16 t282.length co16) t282) ∧ Aside0 (Below w.heap.size w wc))
  case first =>
   have H := HC10.out
   clear HC10
   by_cases c18 : t285.toList = t280.toList
   ·rw [if_pos c18] at H
    have c18b0 : (t285.toList == t280.toList) = true := beq_iff_eq.mpr c18
    have c18b1 : (t285.toList != t280.toList) = false := bne_eq_false_iff_eq.mpr c18
    clear c18
    (first | rw [c18b0] | (simp only [i64_w, i32_w]; rw [c18b0]) | skip)
    have H' := Aside0.mk H
    clear H
    go_wp2
    go_meet
    case rel => exact ⟨_, ((t286 != t281)), (by first | rfl | (simp; done) | (simp [*]; done)), H', ⟨by first | omega | exact Nat.le_refl _⟩, ⟨by (with_reducible repeat (first | apply Kd.S_alloc | apply Kd.S_drewN | apply Kd.S_drew)); exact Kd.S_mono HO284.out (fun _ hk => trivial)⟩, ⟨by repeat (first | (with_reducible first | exact HB.out | apply below_alloc | apply pw_below_drewN | apply below_drew1) | exact HB.out)⟩⟩
   ·rw [if_neg c18] at H
    have c18b0 : (t285.toList == t280.toList) = false := beq_eq_false_iff_ne.mpr c18
    have c18b1 : (t285.toList != t280.toList) = true := bne_iff_ne.mpr c18
    (first | rw [c18b0] | (simp only [i64_w, i32_w]; rw [c18b0]) | skip)
    have H' := Aside0.mk H
    clear H
    go_wp2
    go_meet
    case rel => exact ⟨_, (true), (by first | rfl | (simp; done) | (simp [*]; done)), H', ⟨by first | omega | exact Nat.le_refl _⟩, ⟨by (with_reducible repeat (first | apply Kd.S_alloc | apply Kd.S_drewN | apply Kd.S_drew)); exact Kd.S_mono HO284.out (fun _ hk => trivial)⟩, ⟨by repeat (first | (with_reducible first | exact HB.out | apply below_alloc | apply pw_below_drewN | apply below_drew1) | exact HB.out)⟩⟩
  case rest =>
   clear HC10
   try clear c1
   try clear c2
   try clear p2
   try clear c4
   try clear c4b0
   try clear c7
   try clear c15
   try clear c17
   try clear c18
   try clear c18b0
   try clear c18b1
   obtain ⟨kq, x38_9, rfl, HA, HJ9, HO_8, HB⟩ := hcut
   cases kq with
   | zero => exact absurd HA.out (by simp [laws_FnExactTextOf.j0])
   | succ kj9 =>
    have H := HA.out
    clear HA
    simp only [laws_FnExactTextOf.j0] at H
    by_cases c19 : x38_9 = true
    ·subst c19
     have H1 : (some false) = some r := by rw [if_pos rfl] at H; exact H
     clear H
     have H := H1
     clear H1
     obtain rfl := Option.some.inj H
     go_wp2
     go_ret
     exact ⟨by first | rfl | (simp [*] <;> rfl), by repeat (first | (with_reducible first | exact HB.out | apply below_alloc | apply pw_below_drewN | apply below_drew1) | exact HB.out)⟩
    ·replace c19 := Bool.eq_false_iff.mpr c19
     subst c19
     have H1 : ((laws_toItemS.f kj9 l0).bind fun t287 => ((laws_eqItemS.f kj9 t282 t287).bind fun t290 => (if t290 = true then (some true) else (some false)))) = some r := by rw [if_neg (show ¬ (false = true) by decide)] at H; exact H
     clear H
     have H := H1
     clear H1
     replace H := Option.bind_eq_some_iff.mp H
     obtain ⟨t287, A200, H⟩ := H
     replace H : ((laws_eqItemS.f kj9 t282 t287).bind fun t290 => (if t290 = true then (some true) else (some false))) = some r := H
     have A20 := Aside0.mk A200
     clear A200
     replace H := Option.bind_eq_some_iff.mp H
     obtain ⟨t290, A210, H⟩ := H
     replace H : (if t290 = true then (some true) else (some false)) = some r := H
     have A21 := Aside0.mk A210
     clear A210
     by_cases c22 : t290 = true
     ·subst c22
      have H1 : (some true) = some r := by rw [if_pos rfl] at H; exact H
      clear H
      have H := H1
      clear H1
      obtain rfl := Option.some.inj H
      go_wp2_with (first | ((with_reducible refine gate_callee (f := 17) rfl ?_); refine goesL_ (some 41) rfl rfl Tryd.func17 (by kernel_rfl) rfl #[.slice A0 l0.length c0] rfl (by (try simp only [List.map_toArray, List.map_cons, List.map_nil]); first | done | rfl | (simp only [List.length_drop, List.length_take]; rfl)) ?_; (with_reducible refine (laws_toItemS.calls kj9 _ _ l0 t287 _ ?side1 ?side2 A20.out).mono ?_); (case side1 => repeat (first | exact (Kd.C_below HR0.out HB.out) | (with_reducible refine Kd.C_alloc ?_ _) | (with_reducible refine Kd.C_drewN ?_ _) | (with_reducible refine Kd.C_drew ?_))); (case side2 => exact HC0.out); rintro e w23 ⟨v288, rfl, ho0, hb⟩; refine ⟨_, rfl, ?_⟩; have n0_ := Aside0.mk (Kd.S_elder' (by (with_reducible repeat (first | apply Kd.S_alloc | apply Kd.S_drewN | apply Kd.S_drew)); exact HO_8.out) (Kd.S_base ho0) hb); have n1_ := Aside0.mk (Kd.S_lower (Kd.S_new' ho0 (Kd.S_lt (by (with_reducible repeat (first | apply Kd.S_alloc | apply Kd.S_drewN | apply Kd.S_drew)); exact HO_8.out))) (below_size (by repeat (first | (with_reducible first | exact HB.out | apply below_alloc | apply pw_below_drewN | apply below_drew1) | exact HB.out)))); have n2_ := Aside0.mk (below_step (by repeat (first | (with_reducible first | exact HB.out | apply below_alloc | apply pw_below_drewN | apply below_drew1) | exact HB.out)) hb); clear HO_8; clear HB; have HO_8 := n0_; have HO289 := n1_; have HB := n2_; clear n0_ n1_ n2_; (try clear hb); (try clear hb2); (try clear hk); (try clear hi); (try clear ho0); obtain ⟨Ao24, co24, eo24⟩ := Kd.S_slice HO289.out; subst eo24) | ((with_reducible refine gate_callee (f := 19) rfl ?_); refine goesL_ (some 42) rfl rfl Tryd.func19 (by kernel_rfl) rfl #[.slice Ao16 t282.length co16, .slice Ao24 t287.length co24] rfl (by (try simp only [List.map_toArray, List.map_cons, List.map_nil]); first | done | rfl | (simp only [List.length_drop, List.length_take]; rfl)) ?_; (with_reducible refine (laws_eqItemS.calls kj9 _ _ t282 _ _ t287 true _ ?side1 ?side2 ?side3 ?side4 A21.out).mono ?_); (case side1 => repeat (first | exact (Kd.S_reads' HO_8.out).2.2 | (with_reducible refine Kd.C_alloc ?_ _) | (with_reducible refine Kd.C_drewN ?_ _) | (with_reducible refine Kd.C_drew ?_))); (case side2 => exact (Kd.S_reads' HO_8.out).2.1); (case side3 => repeat (first | exact (Kd.S_reads' HO289.out).2.2 | (with_reducible refine Kd.C_alloc ?_ _) | (with_reducible refine Kd.C_drewN ?_ _) | (with_reducible refine Kd.C_drew ?_))); (case side4 => exact (Kd.S_reads' HO289.out).2.1); rintro e w25 ⟨rfl, hb⟩; refine ⟨_, rfl, ?_⟩; have n0_ := Aside0.mk (Kd.S_below (by (with_reducible repeat (first | apply Kd.S_alloc | apply Kd.S_drewN | apply Kd.S_drew)); exact HO_8.out) hb); have n1_ := Aside0.mk (Kd.S_below (by (with_reducible repeat (first | apply Kd.S_alloc | apply Kd.S_drewN | apply Kd.S_drew)); exact HO289.out) hb); have n2_ := Aside0.mk (below_step (by repeat (first | (with_reducible first | exact HB.out | apply below_alloc | apply pw_below_drewN | apply below_drew1) | exact HB.out)) hb); clear HO_8; clear HO289; clear HB; have HO_8 := n0_; have HO289 := n1_; have HB := n2_; clear n0_ n1_ n2_; (try clear hb); (try clear hb2); (try clear hk); (try clear hi)))
      go_ret
      exact ⟨by first | rfl | (simp [*] <;> rfl), by repeat (first | (with_reducible first | exact HB.out | apply below_alloc | apply pw_below_drewN | apply below_drew1) | exact HB.out)⟩
     ·replace c22 := Bool.eq_false_iff.mpr c22
      subst c22
      have H1 : (some false) = some r := by rw [if_neg (show ¬ (false = true) by decide)] at H; exact H
      clear H
      have H := H1
      clear H1
      obtain rfl := Option.some.inj H
      go_wp2_with (first | ((with_reducible refine gate_callee (f := 17) rfl ?_); refine goesL_ (some 41) rfl rfl Tryd.func17 (by kernel_rfl) rfl #[.slice A0 l0.length c0] rfl (by (try simp only [List.map_toArray, List.map_cons, List.map_nil]); first | done | rfl | (simp only [List.length_drop, List.length_take]; rfl)) ?_; (with_reducible refine (laws_toItemS.calls kj9 _ _ l0 t287 _ ?side1 ?side2 A20.out).mono ?_); (case side1 => repeat (first | exact (Kd.C_below HR0.out HB.out) | (with_reducible refine Kd.C_alloc ?_ _) | (with_reducible refine Kd.C_drewN ?_ _) | (with_reducible refine Kd.C_drew ?_))); (case side2 => exact HC0.out); rintro e w26 ⟨v288, rfl, ho0, hb⟩; refine ⟨_, rfl, ?_⟩; have n0_ := Aside0.mk (Kd.S_elder' (by (with_reducible repeat (first | apply Kd.S_alloc | apply Kd.S_drewN | apply Kd.S_drew)); exact HO_8.out) (Kd.S_base ho0) hb); have n1_ := Aside0.mk (Kd.S_lower (Kd.S_new' ho0 (Kd.S_lt (by (with_reducible repeat (first | apply Kd.S_alloc | apply Kd.S_drewN | apply Kd.S_drew)); exact HO_8.out))) (below_size (by repeat (first | (with_reducible first | exact HB.out | apply below_alloc | apply pw_below_drewN | apply below_drew1) | exact HB.out)))); have n2_ := Aside0.mk (below_step (by repeat (first | (with_reducible first | exact HB.out | apply below_alloc | apply pw_below_drewN | apply below_drew1) | exact HB.out)) hb); clear HO_8; clear HB; have HO_8 := n0_; have HO289 := n1_; have HB := n2_; clear n0_ n1_ n2_; (try clear hb); (try clear hb2); (try clear hk); (try clear hi); (try clear ho0); obtain ⟨Ao27, co27, eo27⟩ := Kd.S_slice HO289.out; subst eo27) | ((with_reducible refine gate_callee (f := 19) rfl ?_); refine goesL_ (some 42) rfl rfl Tryd.func19 (by kernel_rfl) rfl #[.slice Ao16 t282.length co16, .slice Ao27 t287.length co27] rfl (by (try simp only [List.map_toArray, List.map_cons, List.map_nil]); first | done | rfl | (simp only [List.length_drop, List.length_take]; rfl)) ?_; (with_reducible refine (laws_eqItemS.calls kj9 _ _ t282 _ _ t287 false _ ?side1 ?side2 ?side3 ?side4 A21.out).mono ?_); (case side1 => repeat (first | exact (Kd.S_reads' HO_8.out).2.2 | (with_reducible refine Kd.C_alloc ?_ _) | (with_reducible refine Kd.C_drewN ?_ _) | (with_reducible refine Kd.C_drew ?_))); (case side2 => exact (Kd.S_reads' HO_8.out).2.1); (case side3 => repeat (first | exact (Kd.S_reads' HO289.out).2.2 | (with_reducible refine Kd.C_alloc ?_ _) | (with_reducible refine Kd.C_drewN ?_ _) | (with_reducible refine Kd.C_drew ?_))); (case side4 => exact (Kd.S_reads' HO289.out).2.1); rintro e w28 ⟨rfl, hb⟩; refine ⟨_, rfl, ?_⟩; have n0_ := Aside0.mk (Kd.S_below (by (with_reducible repeat (first | apply Kd.S_alloc | apply Kd.S_drewN | apply Kd.S_drew)); exact HO_8.out) hb); have n1_ := Aside0.mk (Kd.S_below (by (with_reducible repeat (first | apply Kd.S_alloc | apply Kd.S_drewN | apply Kd.S_drew)); exact HO289.out) hb); have n2_ := Aside0.mk (below_step (by repeat (first | (with_reducible first | exact HB.out | apply below_alloc | apply pw_below_drewN | apply below_drew1) | exact HB.out)) hb); clear HO_8; clear HO289; clear HB; have HO_8 := n0_; have HO289 := n1_; have HB := n2_; clear n0_ n1_ n2_; (try clear hb); (try clear hb2); (try clear hk); (try clear hi)))
      go_ret
      exact ⟨by first | rfl | (simp [*] <;> rfl), by repeat (first | (with_reducible first | exact HB.out | apply below_alloc | apply pw_below_drewN | apply below_drew1) | exact HB.out)⟩
def WF141 (x : S141) : Prop := x.f0.size ≤ 140737488351232 ∧ x.f1.size ≤ 140737488351232
def WF71 (x : S71) : Prop := (Lit.int .i64 x.f0).wf = true ∧ x.f1.size ≤ 140737488351232 ∧ x.f2.size ≤ 140737488351232 ∧ x.f3.length * 32 ≤ 140737488351232 ∧ (∀ y_ ∈ x.f3, WF141 y_)

/-- THE ONE PURE STATEMENT of laws_FnExactTextOf. -/
def laws_FnExactTextOf.Pure : Prop := ∀ (l0 : List (S71)) (a1 : Int), l0.length * 64 ≤ 140737488351232 → (∀ y_ ∈ l0, WF71 y_) → (Lit.int .i64 a1).wf = true → ∃ k, laws_FnExactTextOf.f k l0 a1 = some true

end Go.Proofs.YtbhklkpjjpkblaaDoor.PT
