/- strings.NewReplacer and its Replace, for signs of one byte each that stand for bytes. -/
import Derived.Test.YtaliphegdclkfaaHRepl
import Derived.Test.YtaliphegdclkfaaHOnce
import Derived.Test.YtaliphegdclkfaaWWords
import Derived.Test.YtaliphegdclkfaaWKept
import Derived.Test.YtaliphegdclkfaaWLast
import Derived.Test.YtaliphegdclkfaaWMore
import Derived.Test.YtaliphegdclkfaaProg
import Derived.WalkKit
import Derived.Laws.Tables
import Derived.Lib.SliceRun
import Derived.WalkSpells
namespace Go.Proofs.YtaliphegdclkfaaW.BytM
open Go Go.RowKit Go.Proofs Go.Proofs.YtaliphegdclkfaaW.PrintWords Go.Proofs.YtaliphegdclkfaaW.ReplM
def zeros (n : Nat) : Array Value := (List.replicate n (Value.int .u8 0)).toArray
theorem built171 : Try.prog.built 128 [] = some (zeros 256) := by kernel_rfl
theorem info171 : (Try.prog.info? 128).map (fun i => (i.zero.map (·.cells), i.size)) = some (some (zeros 256), 256) := by kernel_rfl
theorem size171 : (Try.prog.info? 128).map (·.size) = some 256 := by kernel_rfl
theorem run_alloc171 (w : World) : (Instr.alloc 128 true (.tuple #[])).run Try.prog w = .ok (.pointer (some ⟨w.heap.size, 0, none⟩)) (w.alloc (.cells (zeros 256) 128 (0, 0))) := by
  obtain ⟨i, hi, h⟩ := Option.map_eq_some_iff.1 info171
  simp only [Prod.mk.injEq] at h
  obtain ⟨z, hz, hzz⟩ := Option.map_eq_some_iff.1 h.1
  simp [Instr.alloc, zeroValue, typeInfo, hi, hz, newVar, newRow, go_sem]
  exact congrArg (fun cs => w.alloc (Obj.cells cs 128)) hzz
theorem z171 : Try.zeroCells128 = zeros 256 := by kernel_rfl
theorem zeros_size (n : Nat) : (zeros n).size = n := by unfold zeros; simp
theorem zeros_one (n : Nat) : ((zeros n).all fun x => x.oneCell') = true := by
  rw [Array.all_eq_true]
  intro i hi
  have : (zeros n)[i] = .int .u8 0 := by unfold zeros; simp
  rw [this]
  rfl
/-- The table: the first n bytes of it stand. -/
def BTab (w : World) (R n : Nat) (tb : Nat → Nat) : Prop :=
  ∃ cs, w.heap[R]? = some (.cells cs 128 (0, 0)) ∧ cs.size = 256 ∧ ∀ b, b < n → cs[b]? = some (.int .u8 (tb b : Int))
variable {w w1 : World} {R n : Nat} {tb : Nat → Nat}
theorem BTab.below (h : BTab w R n tb) (hb : Below w.heap.size w w1) : BTab w1 R n tb := by
  obtain ⟨cs, h1, h2, h3⟩ := h
  exact ⟨cs, (hb.block R (Array.getElem?_eq_some_iff.1 h1).1).trans h1, h2, h3⟩
theorem BTab.cell (h : BTab w R n tb) (b : Nat) (hb : b < n) : w.cell? ⟨R, b, none⟩ = some (.int .u8 (tb b : Int)) := by
  obtain ⟨cs, h1, h2, h3⟩ := h
  simp [World.cell?, h1, h3 b hb]
theorem BTab.any (h : BTab w R n tb) (b : Nat) (hb : b < 256) : ∃ v, w.cell? ⟨R, b, none⟩ = some v := by
  obtain ⟨cs, h1, h2, h3⟩ := h
  exact ⟨cs[b]'(by omega), by simp [World.cell?, h1, h2, hb]⟩
theorem BTab.frozen (h : BTab w R n tb) (i : Nat) : w.frozen? ⟨R, i, none⟩ = false := by
  obtain ⟨cs, h1, _⟩ := h
  simp [World.frozen?, h1]
theorem BTab.put (h : BTab w R n tb) (b : Nat) (hb : b < 256) (x : Nat) : BTab (w.setCell ⟨R, b, none⟩ (.int .u8 (x : Int))) R n (fun k => if k = b then x else tb k) := by
  obtain ⟨cs, h1, h2, h3⟩ := h
  refine ⟨cs.setIfInBounds b (.int .u8 (x : Int)), ?_, by simp [h2], fun k hk => ?_⟩
  · rw [setCell_eq_setRow w R b cs _ _ _ h1]
    exact setRow_heap w R cs _ _ _ h1
  · show _ = some (Value.int .u8 (((if k = b then x else tb k) : Nat) : Int))
    by_cases e : k = b
    · subst e
      rw [if_pos rfl, Array.getElem?_setIfInBounds_self_of_lt (by omega)]
    · rw [if_neg e, Array.getElem?_setIfInBounds_ne (Ne.symm e)]
      exact h3 k hk
theorem BTab.grow (h : BTab w R n fun b => b) (hn : n < 256) : BTab (w.setCell ⟨R, n, none⟩ (.int .u8 (n : Int))) R (n + 1) fun b => b := by
  obtain ⟨cs, h1, h2, h3⟩ := h
  refine ⟨cs.setIfInBounds n (.int .u8 (n : Int)), ?_, by simp [h2], fun k hk => ?_⟩
  · rw [setCell_eq_setRow w R n cs _ _ _ h1]
    exact setRow_heap w R cs _ _ _ h1
  · by_cases e : k = n
    · subst e
      rw [Array.getElem?_setIfInBounds_self_of_lt (by omega)]
    · rw [Array.getElem?_setIfInBounds_ne (Ne.symm e)]
      exact h3 k (by omega)
def btabOf (strs : List ByteArray) (m : Nat) : Nat → Nat → Nat
  | 0 => fun b => b
  | j + 1 => fun b => if b = keyAt strs (m - 1 - j) then (bt (valAt strs (m - 1 - j)) 0).toNat else btabOf strs m j b
def BLaid (w : World) (strs : List ByteArray) (m : Nat) (R : Nat) (w' : World) : Prop := w.heap.size ≤ R ∧ BTab w' R 256 (btabOf strs m m) ∧ Below w.heap.size w w'
def BGives (Q : Nat → World → Prop) (e : Ending) (w' : World) : Prop := ∃ R, e = .returned (.iface 129 (.pointer (some ⟨R, 0, none⟩))) ∧ Q R w'
set_option maxHeartbeats 4000000 in
set_option maxRecDepth 100000 in
theorem buildB (b : Nat) (A : Option Addr) (c m : Nat) (strs : List ByteArray) (w : World) (hb : w.cell? ⟨b, 4, none⟩ = some (.slice A strs.length c)) (hC : Kd.string.C w A strs.length strs) (hm : strs.length = 2 * m) (h2 : 2 ≤ m) (hm3 : m ≤ 100)
    (hold : ∀ j : Nat, j < m → (rdOf ByteArray.empty strs ((2 * j : Nat) : Int)).size = 1) (hnew : ∀ j : Nat, j < m → (rdOf ByteArray.empty strs ((2 * j + 1 : Nat) : Int)).size = 1) :
    Calls Try.prog 84 #[.pointer (some ⟨b, 0, none⟩)] w (BGives (BLaid w strs m)) := by
  have c1 : ((strs.length : Int) == 2) = false := beq_eq_false_iff_ne.2 (by omega)
  have HM := Aside0.mk hm
  have H2 := Aside0.mk h2
  have HM3 := Aside0.mk hm3
  have HC := Aside0.mk hC
  have HO := Aside0.mk hold
  have HN := Aside0.mk hnew
  clear hm h2 hm3 hC hold hnew
  go_enter Try.func84, Try.ntmps84
  go_wp2
  go_loopg [4, 5] (m + 1) (fun kq v4 v5 w' => ∃ (j : Nat), v4 = .bool true ∧ v5 = .int .i64 ((2 * j : Nat) : Int) ∧ Aside0 (j ≤ m ∧ m < kq + j) ∧ w' = w)
  case atStart => exact ⟨0, rfl, (by first | rfl | (simp; done) | (simp [*]; done)), ⟨by omega, by omega⟩, rfl⟩
  case round =>
    obtain ⟨j, rfl, rfl, HJ, rfl⟩ := hrel
    have hlen := HM.out
    by_cases hj : j < m
    · have c2 : decide ((2 * (j : Int)) < (strs.length : Int)) = true := decide_eq_true (by omega)
      have c2' : decide (((2 * j : Nat) : Int) < (strs.length : Int)) = true := decide_eq_true (by omega)
      obtain ⟨ad, e0, hx0⟩ := Kd.at_string HC.out ((2 * j : Nat) : Int) (by omega) (by omega)
      subst e0
      obtain ⟨ad', e1, hx1⟩ := Kd.at_string HC.out ((2 * j + 1 : Nat) : Int) (by omega) (by omega)
      obtain rfl := Option.some.inj e1
      clear e1
      have hs0 := HO.out j hj
      have hs1 := HN.out j hj
      have c3 : (((rdOf ByteArray.empty strs ((2 * j : Nat) : Int)).size : Int) != 1) = false := by rw [bne_eq_false_iff_eq]; omega
      have c4 : (((rdOf ByteArray.empty strs ((2 * j + 1 : Nat) : Int)).size : Int) != 1) = false := by rw [bne_eq_false_iff_eq]; omega
      generalize rdOf ByteArray.empty strs ((2 * j : Nat) : Int) = s0 at *
      generalize rdOf ByteArray.empty strs ((2 * j + 1 : Nat) : Int) = s1 at *
      have hm3 := HM3.out
      have p1 := eq_true (show (0 : Int) ≤ ((2 * j : Nat) : Int) by omega)
      have q1 := eq_true (show ((2 * j : Nat) : Int) < (strs.length : Int) by omega)
      have p2 := eq_true (show (0 : Int) ≤ ((2 * j + 1 : Nat) : Int) by omega)
      have q2 := eq_true (show ((2 * j + 1 : Nat) : Int) < (strs.length : Int) by omega)
      have w1 : wrap64 (((2 * j : Nat) : Int) + 1) = ((2 * j + 1 : Nat) : Int) := by unfold wrap64; omega
      have W2 : Aside0 (wrap64 (((2 * j : Nat) : Int) + 2) = ((2 * (j + 1) : Nat) : Int)) := ⟨by unfold wrap64; omega⟩
      have HJ1 := Aside0.mk hj
      clear hlen hs0 hs1 hj hm3
      generalize hI : ((2 * j : Nat) : Int) = I at *
      generalize hI1 : ((2 * j + 1 : Nat) : Int) = I1 at *
      clear hI hI1
      go_wp2
      go_roundg (m - j)
      case measure => have := HJ1.out; have := HJ.out; omega
      case rel => exact ⟨j + 1, rfl, by rw [W2.out], ⟨by have := HJ1.out; omega, by have := HJ.out; have := HJ1.out; omega⟩, rfl⟩
    · have c2 : decide (2 * (j : Int) < (strs.length : Int)) = false := decide_eq_false (by omega)
      clear hj hlen
      have hal := run_alloc171 wr
      go_wp2_with (first | (refine wpList_build rfl 128 #[] rfl (by show (Try.prog.built 128 []).isSome = true; rw [built171]; rfl) ?_; (show wpList _ _ _ _ (Act.put _ _ (.agg ((Try.prog.built 128 []).getD #[]))) _); rw [built171, Option.getD_some]) | (refine wpList_store_row rfl 128 (.tmp 6) (.tmp 60) rfl _ _ rfl rfl 128 (zeros 256) ?g2 ?g3 ?g4 ?g5 ?_))
      case g2 => rw [z171]; exact blk_new wr _
      case g3 => rw [size171, z171, zeros_size]
      case g4 => rw [z171]
      case g5 => rw [z171]; exact zeros_one 256
      have HT0 : Aside0 (BTab ((wr.alloc (Obj.cells Try.zeroCells128 128 (0, 0))).setRow wr.heap.size Try.zeroCells128) wr.heap.size 0 fun b => b) := ⟨by
        rw [z171]
        refine ⟨zeros 256, setRow_heap _ _ _ _ _ _ (blk_new wr _), zeros_size 256, fun b hb => absurd hb (by omega)⟩⟩
      have HB0 : Aside0 (Below wr.heap.size wr ((wr.alloc (Obj.cells Try.zeroCells128 128 (0, 0))).setRow wr.heap.size Try.zeroCells128)) := ⟨below_setRow (below_alloc (Below.refl _ _) _) (Nat.le_refl _) _⟩
      clear hal c2
      obtain ⟨wB, rfl⟩ : ∃ x, x = wr := ⟨_, rfl⟩
      generalize hW0 : (wB.alloc (Obj.cells Try.zeroCells128 128 (0, 0))).setRow wB.heap.size Try.zeroCells128 = W0 at *
      obtain ⟨R, hRR⟩ : ∃ R, R = wB.heap.size := ⟨_, rfl⟩
      rw [← hRR] at HT0
      have HRR := Aside0.mk hRR
      rw [← hRR]
      clear hW0 hRR
      go_loopg [61] 257 (fun kq v61 w' => ∃ (k : Nat), v61 = .int .i64 (k : Int) ∧ Aside0 (k ≤ 256 ∧ 256 < kq + k) ∧ Aside0 (BTab w' R k fun b => b) ∧ Aside0 (Below wB.heap.size wB w'))
      case atStart => exact ⟨0, rfl, ⟨by omega, by omega⟩, HT0, HB0⟩
      case round =>
        obtain ⟨k, rfl, HK, HT, HB⟩ := hrel
        by_cases hk : k < 256
        · obtain ⟨vv, hcell⟩ := HT.out.any k hk
          have hfz := HT.out.frozen k
          have HT2 := Aside0.mk (HT.out.grow hk)
          have HB2 := Aside0.mk (set_below HB.out R k (by rw [HRR.out]; exact Nat.le_refl _) (.int .u8 (k : Int)))
          have c2 : decide ((k : Int) < 256) = true := decide_eq_true (by omega)
          have q1 := eq_true hk
          have p1 := eq_true (show (0 : Int) ≤ (k : Int) by omega)
          have q2 := eq_true (show (k : Int) < 256 by omega)
          have u8 : IntKind.u8.wrap (k : Int) = (k : Int) := by simp [IntKind.wrap, IntKind.bits, IntKind.signed]; omega
          have HW1 : Aside0 (wrap64 ((k : Int) + 1) = ((k + 1 : Nat) : Int)) := ⟨by unfold wrap64; omega⟩
          have HK1 := Aside0.mk hk
          clear hk
          go_wp2
          go_roundg (256 - k)
          case measure => have := HK1.out; have := HK.out; omega
          case rel => exact ⟨k + 1, by rw [HW1.out], ⟨by have := HK1.out; omega, by have := HK.out; have := HK1.out; omega⟩, HT2, HB2⟩
        · have hke : k = 256 := by have := HK.out; omega
          subst hke
          have hlen := HM.out
          have hm3 := HM3.out
          obtain ⟨I0, hI0⟩ : ∃ I0, I0 = 2 * ((m : Int) - 1 - ((0 : Nat) : Int)) := ⟨_, rfl⟩
          have wl : wrap64 ((strs.length : Int) - 2) = I0 := by unfold wrap64; omega
          have HI0 := Aside0.mk hI0
          clear hI0 hk hlen hm3
          go_wp2
          rw [wl]
          clear wl
          go_loopg [8] (m + 1) (fun kq v8 w' => ∃ (j : Nat), v8 = .int .i64 (2 * ((m : Int) - 1 - (j : Int))) ∧ Aside0 (j ≤ m ∧ m < kq + j) ∧ Aside0 (BTab w' R 256 (btabOf strs m j)) ∧ Aside0 (Below wB.heap.size wB w'))
          case atStart => exact ⟨0, by rw [HI0.out], ⟨by omega, by omega⟩, HT, HB⟩
          case round =>
            obtain ⟨j, rfl, HJ, HT, HB⟩ := hrel
            by_cases hj : j < m
            · obtain ⟨i, hi⟩ : ∃ i : Nat, i = m - 1 - j := ⟨_, rfl⟩
              have him : i < m := by omega
              have hI : 2 * ((m : Int) - 1 - (j : Int)) = ((2 * i : Nat) : Int) := by omega
              rw [hI]
              have hlen := HM.out
              have hm3 := HM3.out
              have hC' := Kd.C_below HC.out HB.out
              obtain ⟨ad, e0, hx0⟩ := Kd.at_string hC' ((2 * i : Nat) : Int) (by omega) (by omega)
              subst e0
              obtain ⟨ad', e1, hx1⟩ := Kd.at_string hC' ((2 * i + 1 : Nat) : Int) (by omega) (by omega)
              obtain rfl := Option.some.inj e1
              clear e1 hC'
              have hs0 := HO.out i him
              have hs1 := HN.out i him
              obtain ⟨s0, hs0e⟩ : ∃ s, s = rdOf ByteArray.empty strs ((2 * i : Nat) : Int) := ⟨_, rfl⟩
              rw [← hs0e] at hx0 hs0
              obtain ⟨s1, hs1e⟩ : ∃ s, s = rdOf ByteArray.empty strs ((2 * i + 1 : Nat) : Int) := ⟨_, rfl⟩
              rw [← hs1e] at hx1 hs1
              have p1 := eq_true (show (0 : Int) ≤ ((2 * i : Nat) : Int) by omega)
              have q1 := eq_true (show ((2 * i : Nat) : Int) < (strs.length : Int) by omega)
              have p2 := eq_true (show (0 : Int) ≤ ((2 * i + 1 : Nat) : Int) by omega)
              have q2 := eq_true (show ((2 * i + 1 : Nat) : Int) < (strs.length : Int) by omega)
              have w1 : wrap64 (((2 * i : Nat) : Int) + 1) = ((2 * i + 1 : Nat) : Int) := by unfold wrap64; omega
              have W2 : Aside0 (wrap64 (((2 * i : Nat) : Int) - 2) = 2 * ((m : Int) - 1 - ((j + 1 : Nat) : Int))) := ⟨by unfold wrap64; omega⟩
              have hp0 : 0 < s0.size := by omega
              have hp1 : 0 < s1.size := by omega
              have hk0 : keyAt strs i = (s0[0]'hp0).toNat := by
                unfold keyAt
                rw [← hs0e, ← bt_at s0 0 hp0]
                rfl
              have hk1 : (bt (valAt strs i) 0).toNat = (s1[0]'hp1).toNat := by
                unfold valAt
                rw [← hs1e, ← bt_at s1 0 hp1]
                rfl
              have hlt : (s0[0]'hp0).toNat < 256 := (s0[0]'hp0).toNat_lt
              have HTB : Aside0 (∀ k, btabOf strs m (j + 1) k = if k = (s0[0]'hp0).toNat then (s1[0]'hp1).toNat else btabOf strs m j k) := ⟨fun k => by
                show (if k = keyAt strs (m - 1 - j) then (bt (valAt strs (m - 1 - j)) 0).toNat else btabOf strs m j k) = _
                rw [← hi, hk0, hk1]⟩
              have hcell := HT.out.cell (s0[0]'hp0).toNat hlt
              have hfz := HT.out.frozen (s0[0]'hp0).toNat
              have HT2 := Aside0.mk (HT.out.put (s0[0]'hp0).toNat hlt (s1[0]'hp1).toNat)
              have HB2 := Aside0.mk (set_below HB.out R (s0[0]'hp0).toNat (by rw [HRR.out]; exact Nat.le_refl _) (.int .u8 ((s1[0]'hp1).toNat : Int)))
              have HJ1 := Aside0.mk hj
              clear hlen hm3 hs0 hs1 hj hs0e hs1e hi him hI hk0 hk1
              generalize hI : ((2 * i : Nat) : Int) = I at *
              generalize hI1 : ((2 * i + 1 : Nat) : Int) = I1 at *
              clear hI hI1
              go_wp2
              go_roundg (m - j)
              case measure => have := HJ1.out; have := HJ.out; omega
              case rel =>
                refine ⟨j + 1, by rw [W2.out], ⟨by have := HJ1.out; omega, by have := HJ.out; have := HJ1.out; omega⟩, ⟨?_⟩, HB2⟩
                rw [funext HTB.out]
                exact HT2.out
            · have hjm : j = m := by have := HJ.out; omega
              subst hjm
              have c9 : 2 * ((j : Int) - 1 - (j : Int)) = -2 := by omega
              rw [c9]
              go_wp2
              go_ret
              exact ⟨R, rfl, by rw [HRR.out]; exact Nat.le_refl _, HT.out, HB.out⟩
def mapS (tb : Nat → Nat) (s : ByteArray) : ByteArray := ⟨(s.data.toList.map fun b => UInt8.ofNat (tb b.toNat)).toArray⟩
theorem data_at (s : ByteArray) (j : Nat) (h : j < s.size) : s.data.toList[j]? = some (s[j]'h) := by
  rw [List.getElem?_eq_getElem (by rw [data_length]; exact h)]
  rfl
def BufOk (w : World) (w' : World) (s : ByteArray) (tb : Nat → Nat) (k : Nat) (v : Value) : Prop :=
  (v = .slice none 0 0 ∧ ∀ j (h : j < s.size), j < k → tb (s[j]'h).toNat = (s[j]'h).toNat) ∨
  (∃ G c, v = .slice (some ⟨G, 0, none⟩) s.size c ∧ w.heap.size ≤ G ∧ ∀ j (h : j < s.size), w'.cell? ⟨G, j, none⟩ = some (.int .u8 ((if j < k then tb (s[j]'h).toNat else (s[j]'h).toNat : Nat) : Int)) ∧ w'.frozen? ⟨G, j, none⟩ = false)
theorem BufOk.stay {w w' : World} {s : ByteArray} {tb : Nat → Nat} {k : Nat} {v : Value} (h : BufOk w w' s tb k v) (hk : k < s.size) (he : tb (s[k]'hk).toNat = (s[k]'hk).toNat) : BufOk w w' s tb (k + 1) v := by
  rcases h with ⟨h1, h2⟩ | ⟨G, c, h1, h2, h3⟩
  · refine .inl ⟨h1, fun j hj hjk => ?_⟩
    by_cases e : j = k
    · subst e; exact he
    · exact h2 j hj (by omega)
  · refine .inr ⟨G, c, h1, h2, fun j hj => ?_⟩
    obtain ⟨h4, h5⟩ := h3 j hj
    refine ⟨?_, h5⟩
    rw [h4]
    by_cases e : j = k
    · subst e
      rw [if_neg (by omega), if_pos (by omega), he]
    · by_cases e2 : j < k
      · rw [if_pos e2, if_pos (by omega)]
      · rw [if_neg e2, if_neg (by omega)]
theorem BufOk.turn {w w' : World} {s : ByteArray} {tb : Nat → Nat} {k G c : Nat} (hG : w.heap.size ≤ G) (hk : k < s.size) (h : ∀ j (h : j < s.size), w'.cell? ⟨G, j, none⟩ = some (.int .u8 ((if j < k then tb (s[j]'h).toNat else (s[j]'h).toNat : Nat) : Int)) ∧ w'.frozen? ⟨G, j, none⟩ = false) :
    BufOk w (w'.setCell ⟨G, k, none⟩ (.int .u8 ((tb (s[k]'hk).toNat : Nat) : Int))) s tb (k + 1) (.slice (some ⟨G, 0, none⟩) s.size c) := by
  refine .inr ⟨G, c, rfl, hG, fun j hj => ?_⟩
  obtain ⟨h4, h5⟩ := h j hj
  refine ⟨?_, by rw [World.frozen?_setCell]; exact h5⟩
  by_cases e : j = k
  · subst e
    rw [World.cell?_setCell_same _ _ _ h4, if_pos (by omega)]
  · rw [World.cell?_setCell_other _ _ _ _ (by simp [e]), h4]
    by_cases e2 : j < k
    · rw [if_pos e2, if_pos (by omega)]
    · rw [if_neg e2, if_neg (by omega)]
theorem bytes_ready (w : World) (t : TypeId) (s : ByteArray) (j : Nat) (h : j < s.size) : (Lib.bytesWorld w t s).cell? ⟨w.heap.size, j, none⟩ = some (.int .u8 (((s[j]'h).toNat : Nat) : Int)) ∧ (Lib.bytesWorld w t s).frozen? ⟨w.heap.size, j, none⟩ = false := by
  constructor
  · rw [Lib.bytesWorld_cell w t s j h, List.getD_eq_getElem?_getD, data_at s j h]
    rfl
  · have hs : s.size ≤ (Lib.bytesCells w t s).size := by
      unfold Lib.bytesCells
      rw [Array.size_append, Array.size_map]
      exact Nat.le_add_right _ _
    unfold World.frozen?
    dsimp only
    rw [Lib.bytesWorld_at_new]
    simp
    omega
theorem mapS_same (tb : Nat → Nat) (s : ByteArray) (h : ∀ j (h : j < s.size), tb (s[j]'h).toNat = (s[j]'h).toNat) : mapS tb s = s := by
  have e : s.data.toList.map (fun b => UInt8.ofNat (tb b.toNat)) = s.data.toList := by
    apply List.ext_getElem?
    intro j
    rw [List.getElem?_map]
    by_cases hj : j < s.size
    · rw [data_at s j hj]
      show some (UInt8.ofNat (tb (s[j]'hj).toNat)) = _
      rw [h j hj, UInt8.ofNat_toNat]
    · rw [List.getElem?_eq_none (by rw [data_length]; omega)]
      rfl
  unfold mapS
  rw [e, Array.toArray_toList]
theorem mapS_reads (w : World) (G : Nat) (tb : Nat → Nat) (htb : ∀ b, b < 256 → tb b < 256) (s : ByteArray) (hs : s.size ≤ 1073741824) (h : ∀ j (h : j < s.size), w.cell? ⟨G, j, none⟩ = some (.int .u8 ((tb (s[j]'h).toNat : Nat) : Int))) : ReadsInt w .u8 (some ⟨G, 0, none⟩) s.size (bytesOf (mapS tb s)) := by
  have hl : (mapS tb s).size = s.size := by
    show ((s.data.toList.map _).toArray).size = _
    rw [List.size_toArray, List.length_map, data_length]
  refine ⟨by rw [bytesOf_length, hl], by omega, fun _ => ⟨_, rfl, fun j hj => ?_⟩⟩
  rw [add_plain, h j hj]
  unfold bytesOf
  show _ = some (Value.int .u8 ((List.map (fun b : UInt8 => (b.toNat : Int)) (s.data.toList.map fun b => UInt8.ofNat (tb b.toNat))).getD j 0))
  rw [List.getD_eq_getElem?_getD, List.getElem?_map, List.getElem?_map, data_at s j hj]
  show _ = some (Value.int .u8 ((UInt8.ofNat (tb (s[j]'hj).toNat)).toNat : Int))
  rw [UInt8.toNat_ofNat', Nat.mod_eq_of_lt (htb _ (s[j]'hj).toNat_lt)]
set_option maxHeartbeats 4000000 in
set_option maxRecDepth 100000 in
theorem replaceB (R : Nat) (w : World) (tb : Nat → Nat) (s : ByteArray) (hT : BTab w R 256 tb) (htb : ∀ b, b < 256 → tb b < 256) (hs : s.size ≤ 1073741824) :
    Calls Try.prog 142 #[.pointer (some ⟨R, 0, none⟩), .string s] w fun e w' => e = .returned (.string (mapS tb s)) ∧ Below w.heap.size w w' := by
  have HT := Aside0.mk hT
  have HS := Aside0.mk hs
  have HTB := Aside0.mk htb
  clear hT hs htb
  go_enter Try.func142, Try.ntmps142
  go_wp2
  obtain ⟨w, rfl⟩ : ∃ x, x = w := ⟨_, rfl⟩
  go_loopg [5, 6] (s.size + 1) (fun kq v5 v6 w' => ∃ (k : Nat) (v : Value), v5 = v ∧ v6 = .int .i64 (k : Int) ∧ Aside0 (k ≤ s.size ∧ s.size < kq + k) ∧ Aside0 (BufOk w w' s tb k v) ∧ Aside0 (Below w.heap.size w w'))
  case atStart => exact ⟨0, _, rfl, rfl, ⟨by omega, by omega⟩, ⟨.inl ⟨rfl, fun j _ h => absurd h (by omega)⟩⟩, ⟨Below.refl _ _⟩⟩
  case round =>
    obtain ⟨k, v, rfl, rfl, HK, HF, HB⟩ := hrel
    by_cases hk : k < s.size
    · obtain ⟨b, hb⟩ : ∃ b, b = s[k]'hk := ⟨_, rfl⟩
      have hlt : b.toNat < 256 := b.toNat_lt
      have hcell := (HT.out.below HB.out).cell b.toNat hlt
      have p1 := eq_true (show (0 : Int) ≤ ((k : Nat) : Int) by omega)
      have q1 := eq_true (show ((k : Nat) : Int) < (s.size : Int) by omega)
      have q2 := eq_true (show k < s.size from hk)
      have c2 : decide (((k : Nat) : Int) < (s.size : Int)) = true := decide_eq_true (by omega)
      have HW1 : Aside0 (wrap64 (((k : Nat) : Int) + 1) = ((k + 1 : Nat) : Int)) := ⟨by have := HS.out; unfold wrap64; omega⟩
      have HJ1 := Aside0.mk hk
      by_cases he : tb b.toNat = b.toNat
      · have HSt := Aside0.mk (HF.out.stay hk (by rw [← hb]; exact he))
        have c3 : (((tb b.toNat : Nat) : Int) != ((b.toNat : Nat) : Int)) = false := by rw [bne_eq_false_iff_eq, he]
        rw [he] at hcell
        clear he c3
        subst hb
        go_wp2
        go_roundg (s.size - k)
        case measure => have := HJ1.out; have := HK.out; omega
        case rel => exact ⟨k + 1, _, rfl, by rw [HW1.out], ⟨by have := HJ1.out; omega, by have := HK.out; have := HJ1.out; omega⟩, HSt, HB⟩
      · have hne : ¬ ((tb b.toNat : Nat) : Int) = ((b.toNat : Nat) : Int) := by omega
        obtain ⟨t, ht⟩ : ∃ t, t = tb b.toNat := ⟨_, rfl⟩
        rw [← ht] at hcell hne
        have c3 : (((t : Nat) : Int) != ((b.toNat : Nat) : Int)) = true := by rw [bne_iff_ne]; exact hne
        have HTT : Aside0 (tb (s[k]'hk).toNat = t) := ⟨by rw [← hb]; exact ht.symm⟩
        clear hne ht he
        rcases HF.out with ⟨rfl, h2⟩ | ⟨G, cc, rfl, h2, h3⟩
        · have he : ∀ W : World, (binOp .eql 63 (.slice none 0 0) (.slice none 0 0)).run Try.prog W = .ok (.bool true) W := fun W => Lib.run_eql_slice_nil W 63 5 none 0 0 0 0 Try.underlying63
          have kb := fun W => print_bytes (P := Try.prog) 9 63 5 Try.underlying9 Try.underlying63 Try.underlying5 s W
          have hbw : Below wr.heap.size wr (Lib.bytesWorld wr 5 s) := bytes_below (Below.refl _ _) (Nat.le_refl _) 5 s
          have hcell2 := (BTab.below (HT.out.below HB.out) hbw).cell b.toNat hlt
          rw [show tb b.toNat = t by rw [hb]; exact HTT.out] at hcell2
          have hrd := bytes_ready wr 5 s k hk
          have hr1 := hrd.1
          have hr2 := hrd.2
          have HTU := Aside0.mk (BufOk.turn (w := w) (w' := Lib.bytesWorld wr 5 s) (tb := tb) (k := k) (G := wr.heap.size) (c := grownCap wr s.size 0 5) HB.out.size hk (fun j hj => by
            have h4 := bytes_ready wr 5 s j hj
            refine ⟨?_, h4.2⟩
            by_cases e : j < k
            · rw [if_pos e, h2 j hj e]; exact h4.1
            · rw [if_neg e]; exact h4.1))
          rw [HTT.out] at HTU
          have HB2 := Aside0.mk (set_below (HB.out.trans (hbw.mono HB.out.size)) wr.heap.size k HB.out.size (.int .u8 (t : Int)))
          clear hrd h2 hbw HF
          subst hb
          go_wp2
          go_roundg (s.size - k)
          case measure => have := HJ1.out; have := HK.out; omega
          case rel => exact ⟨k + 1, _, rfl, by rw [HW1.out], ⟨by have := HJ1.out; omega, by have := HK.out; have := HJ1.out; omega⟩, HTU, HB2⟩
        · have he : ∀ W : World, (binOp .eql 63 (.slice (some ⟨G, 0, none⟩) s.size cc) (.slice none 0 0)).run Try.prog W = .ok (.bool false) W := fun W => Lib.run_eql_slice_nil W 63 5 _ _ _ 0 0 Try.underlying63
          have hrd := h3 k hk
          have hr1 := hrd.1
          have hr2 := hrd.2
          have HTU := Aside0.mk (BufOk.turn (w := w) (w' := wr) (tb := tb) (k := k) (G := G) (c := cc) h2 hk h3)
          rw [HTT.out] at HTU
          have HB2 := Aside0.mk (set_below HB.out G k h2 (.int .u8 (t : Int)))
          clear hrd h2 h3 HF
          subst hb
          go_wp2
          go_roundg (s.size - k)
          case measure => have := HJ1.out; have := HK.out; omega
          case rel => exact ⟨k + 1, _, rfl, by rw [HW1.out], ⟨by have := HJ1.out; omega, by have := HK.out; have := HJ1.out; omega⟩, HTU, HB2⟩
    · have hks : k = s.size := by have := HK.out; omega
      subst hks
      clear hk
      rcases HF.out with ⟨rfl, h2⟩ | ⟨G, cc, rfl, h2, h3⟩
      · have he : ∀ W : World, (binOp .eql 63 (.slice none 0 0) (.slice none 0 0)).run Try.prog W = .ok (.bool true) W := fun W => Lib.run_eql_slice_nil W 63 5 none 0 0 0 0 Try.underlying63
        have HM := Aside0.mk (mapS_same tb s (fun j h => h2 j h h))
        clear h2 HF
        go_wp2
        go_ret
        exact ⟨by rw [HM.out]; rfl, HB.out⟩
      · have he : ∀ W : World, (binOp .eql 63 (.slice (some ⟨G, 0, none⟩) s.size cc) (.slice none 0 0)).run Try.prog W = .ok (.bool false) W := fun W => Lib.run_eql_slice_nil W 63 5 _ _ _ 0 0 Try.underlying63
        have hrd := mapS_reads wr G tb HTB.out s HS.out (fun j h => by
          have := (h3 j h).1
          rw [if_pos h] at this
          exact this)
        have kc : (convert 63 9 (.slice (some ⟨G, 0, none⟩) s.size cc)).run Try.prog wr = .ok (.string (mapS tb s)) wr := by
          rw [string_of_reads Try.underlying63 Try.underlying5 Try.underlying9 hrd, strOfNums_bytes]
        clear hrd h2 h3 HF
        go_wp2
        go_ret
        exact ⟨rfl, HB.out⟩
theorem info9 : (Try.prog.info? 9).map (fun i => (i.zero, i.size, i.bytes)) = some (some (.string ByteArray.empty), 1, 16) := by kernel_rfl
def Made (W : World) (strs : List ByteArray) (e : Ending) (w' : World) : Prop := ∃ b v, e = .returned (.pointer (some ⟨b, 0, none⟩)) ∧ W.heap.size ≤ b ∧ w'.heap[b]? = some (.cells #[.int .u32 0, .int .i32 0, .int .u32 0, .nilIface, v] 99 (0, 0)) ∧ Kd.R Kd.string 9 w' W.heap.size (fun _ => True) v strs ∧ Below W.heap.size W w'
set_option maxHeartbeats 4000000 in
set_option maxRecDepth 100000 in
theorem newReplacer (A : Option Addr) (c m : Nat) (strs : List ByteArray) (w : World) (hC : Kd.string.C w A strs.length strs) (hm : strs.length = 2 * m) (hm3 : m ≤ 100) :
    Calls Try.prog 55 #[.slice A strs.length c] w (Made w strs) := by
  have c1 : ((strs.length : Int) % 2 == 1) = false := beq_eq_false_iff_ne.2 (by omega)
  have HM := Aside0.mk hm
  have HM3 := Aside0.mk hm3
  have HC := Aside0.mk hC
  have HB := Aside0.mk (Below.refl w.heap.size w)
  clear hm hm3 hC
  go_enter Try.func55, Try.ntmps55
  go_wp2_with (first | (at_builtin; refine Kd.R_append_row Value.string ByteArray.empty (w0 := w) w.heap.size rfl (.const (.slice none 0 0)) (.tmp 8) 29 9 (.string ByteArray.empty) 16 rfl Try.underlying29 info9 rfl (by decide) (.slice none 0 0) [] strs A strs.length c (fun _ => True) rfl rfl (fun _ _ => trivial) (Kd.R_nil _ _ _ _ _) HC.out (Below.refl _ _) (Nat.le_refl _) ?aL ?_; (case aL => have := HM.out; have := HM3.out; simp only [List.length_nil]; omega); intro v1 w1 ho hb hg hat; obtain ⟨Ar, cr, er⟩ := Kd.R_slice ho; subst er; have n1_ := Aside0.mk ho; have n2_ := Aside0.mk hb; clear HB ho hb hg hat; have HO := n1_; have HB := n2_; clear n1_ n2_))
  go_ret
  refine ⟨w1.heap.size, _, rfl, below_size HB.out, blk_new w1 _, ?_, below_alloc HB.out _⟩
  exact Kd.R_alloc HO.out _
def PutB (b : Nat) (Q : Nat → World → Prop) (w' : World) : Prop := ∃ R w1, Q R w1 ∧ w' = (w1.setCell ⟨b, 3, none⟩ (.iface 129 (.pointer (some ⟨R, 0, none⟩)))).setCell ⟨b, 4, none⟩ (.slice none 0 0)
set_option maxHeartbeats 4000000 in
set_option maxRecDepth 100000 in
theorem buildOnceB (b : Nat) (w : World) (Q : Nat → World → Prop) (hf : Calls Try.prog 84 #[.pointer (some ⟨b, 0, none⟩)] w (BGives Q))
    (hc : ∀ R w', Q R w' → ∃ x y, w'.cell? ⟨b, 3, none⟩ = some x ∧ w'.frozen? ⟨b, 3, none⟩ = false ∧ w'.cell? ⟨b, 4, none⟩ = some y ∧ w'.frozen? ⟨b, 4, none⟩ = false) :
    Calls Try.prog 74 #[.pointer (some ⟨b, 0, none⟩)] w fun e w' => e = .returned (.tuple #[]) ∧ PutB b Q w' := by
  have HC := Aside0.mk hc
  clear hc
  go_enter Try.func74, Try.ntmps74
  go_wp2_with (go_at_call 84; refine hf.mono ?_; rintro e w1 ⟨R, rfl, hq⟩; obtain ⟨x, y, h1, h2, h3, h4⟩ := HC.out R w1 hq; have HQ := Aside0.mk hq; clear hq)
  go_end0
  exact ⟨rfl, R, w1, HQ.out, rfl⟩
set_option maxHeartbeats 4000000 in
set_option maxRecDepth 100000 in
theorem replace2 (b : Nat) (s r : ByteArray) (w : World) (Q : World → Prop) (Z : World → Prop)
    (hf : Calls Try.prog 73 #[.pointer (some ⟨b, 0, none⟩), .func (.func 74) #[.pointer (some ⟨b, 0, none⟩)] #[]] w fun e w' => e = .returned (.tuple #[]) ∧ Q w')
    (hr : ∀ w', Q w' → ∃ R, w'.cell? ⟨b, 3, none⟩ = some (.iface 129 (.pointer (some ⟨R, 0, none⟩))) ∧ Calls Try.prog 142 #[.pointer (some ⟨R, 0, none⟩), .string s] w' fun e w'' => e = .returned (.string r) ∧ Z w'') :
    Calls Try.prog 56 #[.pointer (some ⟨b, 0, none⟩), .string s] w fun e w' => e = .returned (.string r) ∧ Z w' := by
  have HR := Aside0.mk hr
  clear hr
  have hmf : ∀ (fn : Fn) (first cap : Array Value) (w : World), (Instr.makeFunc fn first cap).run Try.prog w = .ok (.func fn first cap) w := fun _ _ _ _ => rfl
  have hm : ∀ (k R : Nat) (w : World), (method (k + 1) 129 (.pointer (some ⟨R, 0, none⟩)) "Replace").run Try.prog w = .ok (142, .pointer (some ⟨R, 0, none⟩)) w := fun _ _ _ => by kernel_rfl
  go_enter Try.func56, Try.ntmps56
  go_wp2_with (first | (go_at_call 73; refine hf.mono ?_; rintro e w1 ⟨rfl, hq⟩; obtain ⟨R, h1, h2⟩ := HR.out w1 hq; have HQ := Aside0.mk h2; clear hq h2) | (go_at_call 142; refine HQ.out.mono ?_; rintro e w2 ⟨rfl, hz⟩; have HZ := Aside0.mk hz; clear hz))
  go_ret
  exact ⟨rfl, HZ.out⟩
theorem BTab.far {i b : Nat} (h : BTab w R n tb) (hb : b < R) (x : Value) : BTab (w.setCell ⟨b, i, none⟩ x) R n tb := by
  obtain ⟨cs, h1, h2, h3⟩ := h
  exact ⟨cs, (set_other w b i R x (by omega)).trans h1, h2, h3⟩
theorem heap_set {w : World} {b i : Nat} {cur : Array Value} {t : TypeId} (h : w.heap[b]? = some (.cells cur t (0, 0))) (x : Value) : (w.setCell ⟨b, i, none⟩ x).heap[b]? = some (.cells (cur.setIfInBounds i x) t (0, 0)) := by
  rw [setCell_eq_setRow w b i cur t _ x h]
  exact setRow_heap w b cur _ _ _ h
theorem cell_of {w : World} {b i : Nat} {cur : Array Value} {t : TypeId} (h : w.heap[b]? = some (.cells cur t (0, 0))) : w.cell? ⟨b, i, none⟩ = cur[i]? ∧ w.frozen? ⟨b, i, none⟩ = false := by
  simp [World.cell?, World.frozen?, h]
theorem set_belowB {b i : Nat} {w : World} (x : Value) : Below b w (w.setCell ⟨b, i, none⟩ x) := set_below (Below.refl b w) b i (Nat.le_refl _) x
theorem wholeB (b base m : Nat) (v : Value) (strs : List ByteArray) (s : ByteArray) (w : World) (hb : w.heap[b]? = some (.cells #[.int .u32 0, .int .i32 0, .int .u32 0, .nilIface, v] 99 (0, 0))) (hR : Kd.string.R 9 w base (fun _ => True) v strs)
    (hm : strs.length = 2 * m) (h2 : 2 ≤ m) (hm3 : m ≤ 100) (hold : ∀ j : Nat, j < m → (rdOf ByteArray.empty strs ((2 * j : Nat) : Int)).size = 1) (hnew : ∀ j : Nat, j < m → (rdOf ByteArray.empty strs ((2 * j + 1 : Nat) : Int)).size = 1)
    (htb : ∀ k, k < 256 → btabOf strs m m k < 256) (hs : s.size ≤ 1073741824) :
    Calls Try.prog 56 #[.pointer (some ⟨b, 0, none⟩), .string s] w fun e w' => e = .returned (.string (mapS (btabOf strs m m) s)) ∧ Below b w w' := by
  have hne : some b ≠ v.ownBlock := by
    intro e
    obtain ⟨cells, h2⟩ := Kd.R_typed hR b e.symm
    rw [hb] at h2
    injection h2 with h2
    injection h2 with _ h2
    exact absurd h2 (by decide)
  obtain ⟨A, c, rfl⟩ := Kd.R_slice hR
  obtain ⟨w0, hw0⟩ : ∃ w0, w0 = w.setCell ⟨b, 1, none⟩ (.int .i32 1) := ⟨_, rfl⟩
  have hb0 : w0.heap[b]? = some (.cells #[.int .u32 0, .int .i32 1, .int .u32 0, .nilIface, .slice A strs.length c] 99 (0, 0)) := by
    rw [hw0]
    exact heap_set hb _
  have hC0 : Kd.string.C w0 A strs.length strs := by
    have := R_setCell (i := 1) (x := .int .i32 1) hR hne
    rw [← hw0] at this
    exact (Kd.R_reads' this).2.2
  have hbl : b < w0.heap.size := (Array.getElem?_eq_some_iff.1 hb0).1
  have hbuild := buildB b A c m strs w0 (cell_of hb0).1 hC0 hm h2 hm3 hold hnew
  have hkeep : ∀ R w', BLaid w0 strs m R w' → w'.heap[b]? = some (.cells #[.int .u32 0, .int .i32 1, .int .u32 0, .nilIface, .slice A strs.length c] 99 (0, 0)) := by
    rintro R w' ⟨_, _, hB⟩
    exact (hB.block b hbl).trans hb0
  have honce := buildOnceB b w0 (BLaid w0 strs m) hbuild (fun R w' hq => ⟨_, _, (cell_of (hkeep R w' hq)).1, (cell_of (i := 3) (hkeep R w' hq)).2, (cell_of (hkeep R w' hq)).1, (cell_of (i := 4) (hkeep R w' hq)).2⟩)
  rw [hw0] at honce
  have hput : ∀ w', PutB b (BLaid w0 strs m) w' → ∃ R, w'.heap[b]? = some (.cells #[.int .u32 0, .int .i32 1, .int .u32 0, .iface 129 (.pointer (some ⟨R, 0, none⟩)), .slice none 0 0] 99 (0, 0)) ∧ b < R ∧ BTab w' R 256 (btabOf strs m m) ∧ Below b w w' := by
    rintro w' ⟨R, w1, hq, rfl⟩
    have hk := hkeep R w1 hq
    obtain ⟨hle, hT, hB⟩ := hq
    have hbR : b < R := by omega
    refine ⟨R, heap_set (heap_set hk _) _, hbR, (hT.far hbR _).far hbR _, ?_⟩
    have b1 : Below b w w0 := by rw [hw0]; exact set_belowB _
    exact ((b1.trans (hB.mono (by omega))).trans (set_belowB _)).trans (set_belowB _)
  have hdo := OnceM.once b w (PutB b (BLaid w0 strs m)) (cell_of hb).1 (cell_of hb).1 (cell_of (i := 1) hb).2 (by rw [← hw0] at honce ⊢; exact honce) (fun w' hq => by
    obtain ⟨R, h3, _⟩ := hput w' hq
    exact ⟨(cell_of h3).1, (cell_of (i := 0) h3).2, (cell_of h3).1, (cell_of (i := 1) h3).2⟩)
  refine replace2 b s _ w _ _ hdo ?_
  rintro w' ⟨w1, hq, rfl⟩
  obtain ⟨R, h3, hbR, hT, hB⟩ := hput w1 hq
  have h3d : w1.drew.heap[b]? = _ := h3
  have h4 := heap_set (i := 1) (heap_set (i := 0) h3d (.int .u32 1)) (.int .i32 0)
  refine ⟨R, (cell_of h4).1, ?_⟩
  have hTd : BTab w1.drew R 256 (btabOf strs m m) := hT
  have hT2 := BTab.far (i := 1) (BTab.far (i := 0) hTd hbR (.int .u32 1)) hbR (.int .i32 0)
  have hB2 : Below b w ((w1.drew.setCell ⟨b, 0, none⟩ (.int .u32 1)).setCell ⟨b, 1, none⟩ (.int .i32 0)) := by
    have hBd : Below b w w1.drew := ⟨hB.os, hB.tape, hB.output, hB.size, hB.block⟩
    exact (hBd.trans (set_belowB _)).trans (set_belowB _)
  generalize (w1.drew.setCell ⟨b, 0, none⟩ (.int .u32 1)).setCell ⟨b, 1, none⟩ (.int .i32 0) = w2 at *
  refine (replaceB R w2 (btabOf strs m m) s hT2 htb hs).mono ?_
  rintro e w3 ⟨rfl, h5⟩
  refine ⟨rfl, hB2.trans (h5.mono ?_)⟩
  have := (Array.getElem?_eq_some_iff.1 h4).1
  omega
end Go.Proofs.YtaliphegdclkfaaW.BytM
