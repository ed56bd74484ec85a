import Derived.Test.YtbhklkpjjpkblaaGreatDoorHRepl
import Derived.Test.YtbhklkpjjpkblaaGreatDoorWWords
import Derived.Test.YtbhklkpjjpkblaaGreatDoorWKept
import Derived.Test.YtbhklkpjjpkblaaGreatDoorWLast
import Derived.Test.YtbhklkpjjpkblaaGreatDoorWMore
import Derived.Test.YtbhklkpjjpkblaaGreatDoorProg
import Derived.Laws.CopyRow
import Derived.WalkKit
import Derived.Laws.MakeOwn
import Derived.Laws.Tables
import Derived.Laws.CopyOwn
import Derived.Lib.SliceRun
namespace Go.Proofs.YtbhklkpjjpkblaaGreatDoorW.BldM
open Go Go.RowKit Go.Proofs Go.Proofs.YtbhklkpjjpkblaaGreatDoorW.PrintWords Go.Proofs.YtbhklkpjjpkblaaGreatDoorW.ReplM
theorem info9' : (Tryz.prog.info? 9).map (fun i => (i.zero, i.size, i.bytes)) = some (some (.string ByteArray.empty), 1, 16) := by kernel_rfl
theorem info175 : (Tryz.prog.info? 125).map (fun i => (i.zero.map (·.cells), i.size)) = some (some (empties 257), 257) := by kernel_rfl
theorem size175 : (Tryz.prog.info? 125).map (·.size) = some 257 := by kernel_rfl
theorem run_alloc175 (w : World) : (Instr.alloc 125 true (.tuple #[])).run Tryz.prog w = .ok (.pointer (some ⟨w.heap.size, 0, none⟩)) (w.alloc (.cells (empties 257) 125 (0, 0))) := by
  obtain ⟨i, hi, h⟩ := Option.map_eq_some_iff.1 info175
  simp only [Prod.mk.injEq] at h
  obtain ⟨z, hz, hzz⟩ := Option.map_eq_some_iff.1 h.1
  simp [Instr.alloc, zeroValue, typeInfo, hi, hz, newVar, newRow, go_sem]
  exact congrArg (fun cs => w.alloc (Obj.cells cs 125)) hzz
theorem z175 : Tryz.zeroCells125 = empties 257 := by kernel_rfl
theorem tab_one (v : Value) (hv : v.oneCell' = true) : ((Tryz.zeroCells125.setIfInBounds 256 v).all fun x => x.oneCell') = true := by
  rw [z175, Array.all_eq_true]
  intro i hi
  have hi2 : i < (empties 257).size := by rw [Array.size_setIfInBounds] at hi; exact hi
  rw [Array.getElem_setIfInBounds hi2]
  split
  · exact hv
  · have h2 : (empties 257)[i]? = some (.slice none 0 0) := empties_at 257 i (by rw [empties_size] at hi2; exact hi2)
    have := (Array.getElem?_eq_some_iff.1 h2).2
    rw [this]
    rfl
set_option maxHeartbeats 4000000 in
set_option maxRecDepth 100000 in
def Laid (w : World) (strs : List ByteArray) (m : Nat) (R : Nat) (w' : World) : Prop := ∃ v, w.heap.size ≤ R ∧ Table w' R v.ownBlock (tabOf strs m m) v ∧ Kd.string.R 9 w' w.heap.size (fun _ => True) v (signsOf strs m m) ∧ Below w.heap.size w w'
def Gives (Q : Nat → World → Prop) (e : Ending) (w' : World) : Prop := ∃ R, e = .returned (.iface 126 (.pointer (some ⟨R, 0, none⟩))) ∧ Q R w'
set_option maxHeartbeats 4000000 in
set_option maxRecDepth 100000 in
theorem build (b : Nat) (A : Option Addr) (c m : Nat) (strs : List ByteArray) (w : World) (hb : w.cell? ⟨b, 4, none⟩ = some (.slice A strs.length c)) (hC : Kd.string.C w A strs.length strs) (hm : strs.length = 2 * m) (h2 : 2 ≤ m) (hm3 : m ≤ 100)
    (hold : ∀ j : Nat, j < m → (rdOf ByteArray.empty strs ((2 * j : Nat) : Int)).size = 1) (hnew : ∃ j : Nat, j < m ∧ (rdOf ByteArray.empty strs ((2 * j + 1 : Nat) : Int)).size ≠ 1)
    (hlong : ∀ j : Nat, j < m → (rdOf ByteArray.empty strs ((2 * j + 1 : Nat) : Int)).size ≤ 1000) (hdist : ∀ i i', i < m → i' < m → keyAt strs i = keyAt strs i' → i = i') :
    Calls Tryz.prog 59 #[.pointer (some ⟨b, 0, none⟩)] w (Gives (Laid w strs m)) := by
  have c1 : ((strs.length : Int) == 2) = false := beq_eq_false_iff_ne.2 (by omega)
  have HM := Aside0.mk hm
  have H2 := Aside0.mk h2
  have HM3 := Aside0.mk hm3
  have HC := Aside0.mk hC
  have HO := Aside0.mk hold
  have HN := Aside0.mk hnew
  have HL := Aside0.mk hlong
  have HD := Aside0.mk hdist
  clear hm h2 hm3 hC hold hnew hlong hdist
  go_enter Tryz.func59, Tryz.ntmps59
  go_wp2
  go_loopg [4, 5] (m + 1) (fun kq v4 v5 w' => ∃ (j : Nat) (f : Bool), v4 = .bool f ∧ v5 = .int .i64 ((2 * j : Nat) : Int) ∧ Aside0 (j ≤ m ∧ m < kq + j) ∧ Aside0 (f = true → ∀ i : Nat, i < j → (rdOf ByteArray.empty strs ((2 * i + 1 : Nat) : Int)).size = 1) ∧ w' = w)
  case atStart => exact ⟨0, true, (by first | rfl | (simp; done) | (simp [*]; done)), (by first | rfl | (simp; done) | (simp [*]; done)), ⟨by omega, by omega⟩, ⟨fun _ i hi => absurd hi (by omega)⟩, rfl⟩
  case round =>
    obtain ⟨j, f, rfl, rfl, HJ, HF, rfl⟩ := hrel
    have hlen := HM.out
    by_cases hj : j < m
    · have c2 : decide ((2 * (j : Int)) < (strs.length : Int)) = true := decide_eq_true (by omega)
      have c2' : decide (((2 * j : Nat) : Int) < (strs.length : Int)) = true := decide_eq_true (by omega)
      obtain ⟨ad, e0, hx0⟩ := Kd.at_string HC.out ((2 * j : Nat) : Int) (by omega) (by omega)
      subst e0
      obtain ⟨ad', e1, hx1⟩ := Kd.at_string HC.out ((2 * j + 1 : Nat) : Int) (by omega) (by omega)
      obtain rfl := Option.some.inj e1
      clear e1
      have hs0 := HO.out j hj
      have c3 : (((rdOf ByteArray.empty strs ((2 * j : Nat) : Int)).size : Int) != 1) = false := by rw [bne_eq_false_iff_eq]; omega
      generalize rdOf ByteArray.empty strs ((2 * j : Nat) : Int) = s0 at *
      obtain ⟨s1, hs1⟩ : ∃ s, s = rdOf ByteArray.empty strs ((2 * j + 1 : Nat) : Int) := ⟨_, rfl⟩
      rw [← hs1] at hx1
      have hm3 := HM3.out
      have p1 := eq_true (show (0 : Int) ≤ ((2 * j : Nat) : Int) by omega)
      have q1 := eq_true (show ((2 * j : Nat) : Int) < (strs.length : Int) by omega)
      have p2 := eq_true (show (0 : Int) ≤ ((2 * j + 1 : Nat) : Int) by omega)
      have q2 := eq_true (show ((2 * j + 1 : Nat) : Int) < (strs.length : Int) by omega)
      have w1 : wrap64 (((2 * j : Nat) : Int) + 1) = ((2 * j + 1 : Nat) : Int) := by unfold wrap64; omega
      have W2 : Aside0 (wrap64 (((2 * j : Nat) : Int) + 2) = ((2 * (j + 1) : Nat) : Int)) := ⟨by unfold wrap64; omega⟩
      have HJ1 := Aside0.mk hj
      have HS1 := Aside0.mk hs1
      clear hlen hs0 hj hm3 hs1
      generalize hI : ((2 * j : Nat) : Int) = I at *
      generalize hI1 : ((2 * j + 1 : Nat) : Int) = I1 at *
      have HI1 := Aside0.mk hI1
      clear hI hI1
      by_cases hf : s1.size = 1
      · have c4 : ((s1.size : Int) != 1) = false := by rw [bne_eq_false_iff_eq]; omega
        have HFS := Aside0.mk hf
        clear hf
        go_wp2
        go_roundg (m - j)
        case measure => have := HJ1.out; have := HJ.out; omega
        case rel =>
          refine ⟨j + 1, f, rfl, by rw [W2.out], ⟨by have := HJ1.out; omega, by have := HJ.out; have := HJ1.out; omega⟩, ⟨fun hft i hi => ?_⟩, rfl⟩
          by_cases e : i = j
          · subst e; rw [HI1.out, ← HS1.out]; exact HFS.out
          · exact HF.out hft i (by omega)
      · have c4 : ((s1.size : Int) != 1) = true := by rw [bne_iff_ne]; omega
        clear hf
        go_wp2
        go_roundg (m - j)
        case measure => have := HJ1.out; have := HJ.out; omega
        case rel => exact ⟨j + 1, false, rfl, by rw [W2.out], ⟨by have := HJ1.out; omega, by have := HJ.out; have := HJ1.out; omega⟩, ⟨fun hft => by cases hft⟩, rfl⟩
    · have c2 : decide (2 * (j : Int) < (strs.length : Int)) = false := decide_eq_false (by omega)
      have wm : wrap64 (m : Int) = (m : Int) := by have := HM3.out; unfold wrap64; omega
      have hfalse : f = false := by
        cases f with
        | false => rfl
        | true =>
          obtain ⟨i, hi, hne⟩ := HN.out
          exact absurd (HF.out rfl i (by have := HJ.out; omega)) hne
      subst hfalse
      have hq : Int.tdiv (strs.length : Int) 2 = (m : Int) := by rw [Int.tdiv_eq_ediv_of_nonneg (by omega)]; omega
      obtain ⟨i9, hi9, h9⟩ := Option.map_eq_some_iff.1 info9'
      simp only [Prod.mk.injEq] at h9
      obtain ⟨wk, hmk, hown, hgrow⟩ := run_make_own (P := Tryz.prog) (w := wr) wr.heap.size 77 9 i9 (.string ByteArray.empty) 1 Tryz.underlying77 hi9 h9.1 h9.2.1 .i64 .i64 m (by rw [h9.2.2]; have := HM3.out; omega) (by unfold maxLen; have := HM3.out; omega) (Nat.le_refl _)
      clear hj hlen
      have HOWN := Aside0.mk hown
      have HGR := Aside0.mk hgrow
      clear hown hgrow
      have hal := run_alloc175 wk
      go_wp2_with (first | (refine wpList_build rfl 125 #[(1, .tmp 94)] rfl (by show (Tryz.prog.built 125 [(1, .slice _ _ _)]).isSome = true; rw [built175]; rfl) ?_; (show wpList _ _ _ _ (Act.put _ _ (.agg ((Tryz.prog.built 125 [(1, .slice _ _ _)]).getD #[]))) _); rw [built175, Option.getD_some]; generalize hT : (empties 256).push _ = T0) | (refine wpList_store_row rfl 125 (.tmp 11) (.tmp 95) rfl _ _ rfl rfl 125 (empties 257) ?g2 ?g3 ?g4 ?g5 ?_))
      case g2 => rw [z175]; exact blk_new wk _
      case g3 => rw [size175, Array.size_setIfInBounds, z175, empties_size]
      case g4 => rw [Array.size_setIfInBounds, z175]
      case g5 => exact tab_one _ rfl
      have HT0 : Table ((wk.alloc (Obj.cells Tryz.zeroCells125 125 (0, 0))).setRow wk.heap.size (Tryz.zeroCells125.setIfInBounds 256 (Value.slice (some ⟨wr.heap.size, 0, none⟩) 0 m))) wk.heap.size (Value.slice (some ⟨wr.heap.size, 0, none⟩) 0 m).ownBlock (tabOf strs m 0) (Value.slice (some ⟨wr.heap.size, 0, none⟩) 0 m) := by
        refine Table.start _ _ _ _ ?_
        rw [z175]
        exact setRow_heap _ _ _ _ _ _ (blk_new wk _)
      have HBw : Below wk.heap.size wk ((wk.alloc (Obj.cells Tryz.zeroCells125 125 (0, 0))).setRow wk.heap.size (Tryz.zeroCells125.setIfInBounds 256 (Value.slice (some ⟨wr.heap.size, 0, none⟩) 0 m))) := below_setRow (below_alloc (Below.refl _ _) _) (Nat.le_refl _) _
      have HR0 : Kd.string.R 9 ((wk.alloc (Obj.cells Tryz.zeroCells125 125 (0, 0))).setRow wk.heap.size (Tryz.zeroCells125.setIfInBounds 256 (Value.slice (some ⟨wr.heap.size, 0, none⟩) 0 m))) wr.heap.size (fun _ => True) (Value.slice (some ⟨wr.heap.size, 0, none⟩) 0 m) (signsOf strs m 0) :=
        Kd.R_below (w := wk) ⟨fun _ _ => trivial, [], HOWN.out, Reps.none _ _⟩ HBw
      have HB0 : Below wr.heap.size wr ((wk.alloc (Obj.cells Tryz.zeroCells125 125 (0, 0))).setRow wk.heap.size (Tryz.zeroCells125.setIfInBounds 256 (Value.slice (some ⟨wr.heap.size, 0, none⟩) 0 m))) := ((Below.refl _ wr).grown HGR.out (Nat.le_refl _) (by simp)).trans (HBw.mono HGR.out.size)
      have HRle : Aside0 (wr.heap.size ≤ wk.heap.size) := ⟨HGR.out.size⟩
      have A1 := Aside0.mk HT0
      have A2 := Aside0.mk HR0
      have A3 := Aside0.mk HB0
      clear HT0 HBw HR0 HB0 HOWN HGR hmk hal
      generalize hW0 : (wk.alloc (Obj.cells Tryz.zeroCells125 125 (0, 0))).setRow wk.heap.size (Tryz.zeroCells125.setIfInBounds 256 (Value.slice (some ⟨wr.heap.size, 0, none⟩) 0 m)) = W0 at *
      generalize hvv : Value.slice (some ⟨wr.heap.size, 0, none⟩) 0 m = vv at *
      generalize hRR : wk.heap.size = R at *
      clear hW0 hvv hRR
      have wl : wrap64 ((strs.length : Int) - 2) = 2 * ((m : Int) - 1 - ((0 : Nat) : Int)) := by unfold wrap64; have := HM3.out; have := HM.out; omega
      obtain ⟨I0, hI0⟩ : ∃ I0, I0 = 2 * ((m : Int) - 1 - ((0 : Nat) : Int)) := ⟨_, rfl⟩
      rw [wl, ← hI0]
      have HI0 := Aside0.mk hI0
      clear hI0
      clear wl wm hq c2
      obtain ⟨wB, rfl⟩ : ∃ x, x = wr := ⟨_, rfl⟩
      go_loopg [12] (m + 1) (fun kq v12 w' => ∃ (j : Nat) (v : Value), v12 = .int .i64 (2 * ((m : Int) - 1 - (j : Int))) ∧ Aside0 (j ≤ m ∧ m < kq + j) ∧ Aside0 (Table w' R v.ownBlock (tabOf strs m j) v) ∧ Aside0 (Kd.string.R 9 w' wB.heap.size (fun _ => True) v (signsOf strs m j)) ∧ Aside0 (Below wB.heap.size wB w'))
      case atStart => exact ⟨0, vv, by rw [HI0.out], ⟨by omega, by omega⟩, A1, A2, A3⟩
      case round =>
        obtain ⟨j, v, rfl, HJ, HT, HR, HB⟩ := hrel
        by_cases hj : j < m
        · obtain ⟨i, hi⟩ : ∃ i : Nat, i = m - 1 - j := ⟨_, rfl⟩
          have him : i < m := by omega
          have hI : 2 * ((m : Int) - 1 - (j : Int)) = ((2 * i : Nat) : Int) := by omega
          rw [hI]
          have hlen := HM.out
          have hm3 := HM3.out
          have hC' := Kd.C_below HC.out HB.out
          obtain ⟨ad, e0, hx0⟩ := Kd.at_string hC' ((2 * i : Nat) : Int) (by omega) (by omega)
          subst e0
          obtain ⟨ad', e1, hx1⟩ := Kd.at_string hC' ((2 * i + 1 : Nat) : Int) (by omega) (by omega)
          obtain rfl := Option.some.inj e1
          clear e1 hC'
          have hs0 := HO.out i him
          have hs1 := HL.out i him
          obtain ⟨s0, hs0e⟩ : ∃ s, s = rdOf ByteArray.empty strs ((2 * i : Nat) : Int) := ⟨_, rfl⟩
          rw [← hs0e] at hx0 hs0
          obtain ⟨s1, hs1e⟩ : ∃ s, s = rdOf ByteArray.empty strs ((2 * i + 1 : Nat) : Int) := ⟨_, rfl⟩
          rw [← hs1e] at hx1 hs1
          have p1 := eq_true (show (0 : Int) ≤ ((2 * i : Nat) : Int) by omega)
          have q1 := eq_true (show ((2 * i : Nat) : Int) < (strs.length : Int) by omega)
          have p2 := eq_true (show (0 : Int) ≤ ((2 * i + 1 : Nat) : Int) by omega)
          have q2 := eq_true (show ((2 * i + 1 : Nat) : Int) < (strs.length : Int) by omega)
          have w1 : wrap64 (((2 * i : Nat) : Int) + 1) = ((2 * i + 1 : Nat) : Int) := by unfold wrap64; omega
          have W2 : Aside0 (wrap64 (((2 * i : Nat) : Int) - 2) = 2 * ((m : Int) - 1 - ((j + 1 : Nat) : Int))) := ⟨by unfold wrap64; omega⟩
          have hK0 := bt_range s0 0
          have hkey : keyAt strs i = (bt s0 0).toNat := by unfold keyAt; rw [← hs0e]
          have hnil := tabOf_fresh strs m j hj HD.out
          rw [← hi, hkey] at hnil
          obtain ⟨vs, hcell, hslot⟩ := HT.out.cell (bt s0 0).toNat (by omega)
          rw [hnil] at hslot
          obtain rfl : vs = .slice none 0 0 := hslot
          have hlast := HT.out.lastCell
          have hfz := HT.out.frozen
          have HSG : Aside0 (signsOf strs m (j + 1) = signsOf strs m j ++ [s0]) := ⟨by rw [signsOf, ← hi, ← hs0e]⟩
          have HJ1 := Aside0.mk hj
          have HS0 := Aside0.mk hs0
          have HS1 := Aside0.mk hs1
          have HI := Aside0.mk hi
          have HE0 := Aside0.mk hs0e
          have HE1 := Aside0.mk hs1e
          have HKE := Aside0.mk hkey
          have hp0 : 0 < s0.size := by omega
          have hu : bt s0 0 = ((s0[0]'hp0).toNat : Int) := (bt_at s0 0 hp0).symm
          have hu2 : (bt s0 0).toNat = (s0[0]'hp0).toNat := by omega
          rw [hu2] at hcell hkey
          have hlt : (s0[0]'hp0).toNat < 256 := by omega
          have HTB : Aside0 (∀ k, tabOf strs m (j + 1) k = if k = (s0[0]'hp0).toNat then some s1 else tabOf strs m j k) := ⟨fun k => by
            show (if k = keyAt strs (m - 1 - j) then some (valAt strs (m - 1 - j)) else tabOf strs m j k) = _
            rw [← hi, hkey]
            unfold valAt
            rw [← hs1e]⟩
          clear hlen hs0 hs1 hj hm3 hs0e hs1e hnil hi him hI hkey hK0 hu2
          generalize hI : ((2 * i : Nat) : Int) = I at *
          generalize hI1 : ((2 * i + 1 : Nat) : Int) = I1 at *
          clear hI hI1
          have kc : ∀ W : World, (convert 42 9 (.slice (some ⟨W.heap.size, 0, none⟩) 1 1)).run Tryz.prog (W.alloc (.cells #[.int .u8 (bt s0 0)] 5 (0, 0))) = .ok (.string s0) (W.alloc (.cells #[.int .u8 (bt s0 0)] 5 (0, 0))) := fun W => conv_one Tryz.underlying42 Tryz.underlying5 Tryz.underlying9 s0 HS0.out W
          rw [hu] at kc
          have HU := Aside0.mk hu
          clear hu
          have kb := fun W => print_bytes (P := Tryz.prog) 9 42 5 Tryz.underlying9 Tryz.underlying42 Tryz.underlying5 s1 W
          have he : ∀ W : World, (binOp .eql 42 (.slice none 0 0) (.slice none 0 0)).run Tryz.prog W = .ok (.bool true) W := fun W => by
            have h := Lib.run_eql_slice_nil W 42 5 none 0 0 0 0 Tryz.underlying42
            exact h
          have hne := HT.out.ne HR.out
          have HT1 := Aside0.mk (HT.out.alloc hne (.cells #[.int .u8 ((s0[0]'hp0).toNat : Int)] 5 (0, 0)))
          have HR1 := Aside0.mk (Kd.R_alloc HR.out (.cells #[.int .u8 ((s0[0]'hp0).toNat : Int)] 5 (0, 0)))
          have HB1 := Aside0.mk (HB.out.alloc HB.out.size (.cells #[.int .u8 ((s0[0]'hp0).toNat : Int)] 5 (0, 0)))
          have HNE := Aside0.mk hne
          clear hne
          go_upto_region 34 with (first | (at_builtin; go_loud (refine Kd.R_append Kd.string (w0 := wB) wB.heap.size rfl (.tmp 119) (.tmp 123) 77 9 (.string ByteArray.empty) 16 rfl Tryz.underlying77 info9' rfl (by decide) (by decide) v (signsOf strs m j) s0 [.string s0] (fun _ => True) (fun _ => False) rfl (by show Value.slice (some ⟨wr.heap.size + 1, 0, none⟩) 1 1 = Value.slice (some ⟨World.heap (wr.alloc _) |>.size, 0, none⟩) 1 1; simp) ?hp (fun _ h => h.elim) (fun _ _ => trivial) HR1.out HB1.out HB1.out.size ?hl ?_); (case hp => rfl); (case hl => rw [signsOf_length]; have := HJ1.out; have := HM3.out; omega); intro v1 wx ho hb hg hat; (obtain ⟨A1, ck, ev⟩ := Kd.R_slice ho); generalize (signsOf strs m j ++ [s0]).length = n1 at ev; subst ev; go_loud (have HT2 := Aside0.mk (HT1.out.grown HNE.out hg hat)); have HR2 := Aside0.mk ho; have HB2 := Aside0.mk hb; clear ho hb hg hat; have hl2 := HT2.out.lastCell; have hf2 := HT2.out.frozen))
          have hne2 := HT2.out.ne HR2.out
          have HT3 := Aside0.mk (HT2.out.setLast (.slice A1 n1 ck))
          have HR3 := Aside0.mk (R_setCell (i := 256) (x := .slice A1 n1 ck) HR2.out hne2)
          have HB3 := Aside0.mk (set_below HB2.out R 256 (by have := HRle.out; omega) (.slice A1 n1 ck))
          have HNE2 := Aside0.mk hne2
          clear hl2 hf2 hne2
          generalize wx.setCell ⟨R, 256, none⟩ (Value.slice A1 n1 ck) = w2 at *
          have HT4 := HT3.out.below HNE2.out (bytes_below (Below.refl _ _) (Nat.le_refl _) 5 s1)
          have HB4 := Aside0.mk (HB3.out.trans ((bytes_below (Below.refl w2.heap.size w2) (Nat.le_refl _) 5 s1).mono HB3.out.size))
          have HT5 := Aside0.mk (HT4.put ((s0[0]'hp0).toNat) hlt s1 _ (slot_bytes (c := grownCap w2 s1.size 0 5) HT3.out.lt HR3.out s1 (by have := HS1.out; omega)))
          have HR5 := Aside0.mk (R_setCell (i := (s0[0]'hp0).toNat) (x := .slice (some ⟨w2.heap.size, 0, none⟩) s1.size (grownCap w2 s1.size 0 5)) (Kd.R_below HR3.out (bytes_below (Below.refl _ _) (Nat.le_refl _) 5 s1)) HNE2.out)
          obtain ⟨vq, hq4, _⟩ := HT4.cell _ hlt
          have hf4 := HT4.frozen
          clear HT4
          go_wp2
          go_roundg (m - j)
          case measure => have := HJ1.out; have := HJ.out; omega
          case rel =>
            refine ⟨j + 1, .slice A1 n1 ck, by rw [W2.out], ⟨by have := HJ1.out; omega, by have := HJ.out; have := HJ1.out; omega⟩, ⟨?_⟩, ⟨?_⟩, ⟨?_⟩⟩
            · rw [funext HTB.out]; exact HT5.out
            · rw [HSG.out]; exact HR5.out
            · exact set_below HB4.out R _ (by have := HRle.out; omega) _
        · have hjm : j = m := by have := HJ.out; omega
          subst hjm
          have c9 : 2 * ((j : Int) - 1 - (j : Int)) = -2 := by omega
          rw [c9]
          go_wp2
          go_ret
          exact ⟨R, rfl, v, HRle.out, HT.out, HR.out, HB.out⟩
end Go.Proofs.YtbhklkpjjpkblaaGreatDoorW.BldM
