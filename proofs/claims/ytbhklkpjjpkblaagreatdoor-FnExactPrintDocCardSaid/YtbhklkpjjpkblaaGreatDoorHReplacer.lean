/- strings.NewReplacer and its Replace, for signs of one byte each and texts that are not all of one byte. -/
import Derived.Test.YtbhklkpjjpkblaaGreatDoorHBuild
import Derived.Test.YtbhklkpjjpkblaaGreatDoorHBRepl
import Derived.Test.YtbhklkpjjpkblaaGreatDoorHOnce
import Derived.Test.YtbhklkpjjpkblaaGreatDoorWMore
import Derived.WalkKit
namespace Go.Proofs.YtbhklkpjjpkblaaGreatDoorW.RepM
open Go Go.RowKit Go.Proofs Go.Proofs.YtbhklkpjjpkblaaGreatDoorW.PrintWords Go.Proofs.YtbhklkpjjpkblaaGreatDoorW.ReplM
theorem info9 : (Tryz.prog.info? 9).map (fun i => (i.zero, i.size, i.bytes)) = some (some (.string ByteArray.empty), 1, 16) := by kernel_rfl
def Made (W : World) (strs : List ByteArray) (e : Ending) (w' : World) : Prop := ∃ b v, e = .returned (.pointer (some ⟨b, 0, none⟩)) ∧ W.heap.size ≤ b ∧ w'.heap[b]? = some (.cells #[.int .u32 0, .int .i32 0, .int .u32 0, .nilIface, v] 99 (0, 0)) ∧ Kd.R Kd.string 9 w' W.heap.size (fun _ => True) v strs ∧ Below W.heap.size W w'
set_option maxHeartbeats 4000000 in
set_option maxRecDepth 100000 in
theorem newReplacer (A : Option Addr) (c m : Nat) (strs : List ByteArray) (w : World) (hC : Kd.string.C w A strs.length strs) (hm : strs.length = 2 * m) (hm3 : m ≤ 100) :
    Calls Tryz.prog 39 #[.slice A strs.length c] w (Made w strs) := by
  have c1 : ((strs.length : Int) % 2 == 1) = false := beq_eq_false_iff_ne.2 (by omega)
  have HM := Aside0.mk hm
  have HM3 := Aside0.mk hm3
  have HC := Aside0.mk hC
  have HB := Aside0.mk (Below.refl w.heap.size w)
  clear hm hm3 hC
  go_enter Tryz.func39, Tryz.ntmps39
  go_wp2_with (first | (at_builtin; refine Kd.R_append_row Value.string ByteArray.empty (w0 := w) w.heap.size rfl (.const (.slice none 0 0)) (.tmp 8) 77 9 (.string ByteArray.empty) 16 rfl Tryz.underlying77 info9 rfl (by decide) (.slice none 0 0) [] strs A strs.length c (fun _ => True) rfl rfl (fun _ _ => trivial) (Kd.R_nil _ _ _ _ _) HC.out (Below.refl _ _) (Nat.le_refl _) ?aL ?_; (case aL => have := HM.out; have := HM3.out; simp only [List.length_nil]; omega); intro v1 w1 ho hb hg hat; obtain ⟨Ar, cr, er⟩ := Kd.R_slice ho; subst er; have n1_ := Aside0.mk ho; have n2_ := Aside0.mk hb; clear HB ho hb hg hat; have HO := n1_; have HB := n2_; clear n1_ n2_))
  go_ret
  refine ⟨w1.heap.size, _, rfl, below_size HB.out, blk_new w1 _, ?_, below_alloc HB.out _⟩
  exact Kd.R_alloc HO.out _
def Put (b : Nat) (Q : Nat → World → Prop) (w' : World) : Prop := ∃ R w1, Q R w1 ∧ w' = (w1.setCell ⟨b, 3, none⟩ (.iface 126 (.pointer (some ⟨R, 0, none⟩)))).setCell ⟨b, 4, none⟩ (.slice none 0 0)
set_option maxHeartbeats 4000000 in
set_option maxRecDepth 100000 in
theorem buildOnce (b : Nat) (w : World) (Q : Nat → World → Prop) (hf : Calls Tryz.prog 59 #[.pointer (some ⟨b, 0, none⟩)] w (BldM.Gives Q))
    (hc : ∀ R w', Q R w' → ∃ x y, w'.cell? ⟨b, 3, none⟩ = some x ∧ w'.frozen? ⟨b, 3, none⟩ = false ∧ w'.cell? ⟨b, 4, none⟩ = some y ∧ w'.frozen? ⟨b, 4, none⟩ = false) :
    Calls Tryz.prog 49 #[.pointer (some ⟨b, 0, none⟩)] w fun e w' => e = .returned (.tuple #[]) ∧ Put b Q w' := by
  have HC := Aside0.mk hc
  clear hc
  go_enter Tryz.func49, Tryz.ntmps49
  go_wp2_with (go_at_call 59; refine hf.mono ?_; rintro e w1 ⟨R, rfl, hq⟩; obtain ⟨x, y, h1, h2, h3, h4⟩ := HC.out R w1 hq; have HQ := Aside0.mk hq; clear hq)
  go_end0
  exact ⟨rfl, R, w1, HQ.out, rfl⟩
set_option maxHeartbeats 4000000 in
set_option maxRecDepth 100000 in
theorem replace (b : Nat) (s r : ByteArray) (w : World) (Q : World → Prop) (Z : World → Prop)
    (hf : Calls Tryz.prog 48 #[.pointer (some ⟨b, 0, none⟩), .func (.func 49) #[.pointer (some ⟨b, 0, none⟩)] #[]] w fun e w' => e = .returned (.tuple #[]) ∧ Q w')
    (hr : ∀ w', Q w' → ∃ R, w'.cell? ⟨b, 3, none⟩ = some (.iface 126 (.pointer (some ⟨R, 0, none⟩))) ∧ Calls Tryz.prog 128 #[.pointer (some ⟨R, 0, none⟩), .string s] w' fun e w'' => e = .returned (.string r) ∧ Z w'') :
    Calls Tryz.prog 40 #[.pointer (some ⟨b, 0, none⟩), .string s] w fun e w' => e = .returned (.string r) ∧ Z w' := by
  have HR := Aside0.mk hr
  clear hr
  have hmf : ∀ (fn : Fn) (first cap : Array Value) (w : World), (Instr.makeFunc fn first cap).run Tryz.prog w = .ok (.func fn first cap) w := fun _ _ _ _ => rfl
  have hm : ∀ (k R : Nat) (w : World), (method (k + 1) 126 (.pointer (some ⟨R, 0, none⟩)) "Replace").run Tryz.prog w = .ok (128, .pointer (some ⟨R, 0, none⟩)) w := fun _ _ _ => by kernel_rfl
  go_enter Tryz.func40, Tryz.ntmps40
  go_wp2_with (first | (go_at_call 48; refine hf.mono ?_; rintro e w1 ⟨rfl, hq⟩; obtain ⟨R, h1, h2⟩ := HR.out w1 hq; have HQ := Aside0.mk h2; clear hq h2) | (go_at_call 128; refine HQ.out.mono ?_; rintro e w2 ⟨rfl, hz⟩; have HZ := Aside0.mk hz; clear hz))
  go_ret
  exact ⟨rfl, HZ.out⟩
def domOf (strs : List ByteArray) (m : Nat) : Nat → List UInt8
  | 0 => []
  | j + 1 => domOf strs m j ++ [UInt8.ofNat (keyAt strs (m - 1 - j))]
theorem one_of (x : ByteArray) (h : x.size = 1) : x = BRepM.one (UInt8.ofNat (bt x 0).toNat) := (str_one x h).symm
theorem signs_dom (strs : List ByteArray) (m : Nat) (hold : ∀ j : Nat, j < m → (rdOf ByteArray.empty strs ((2 * j : Nat) : Int)).size = 1) : ∀ j, j ≤ m → signsOf strs m j = (domOf strs m j).map BRepM.one
  | 0, _ => rfl
  | j + 1, h => by
    rw [signsOf, domOf, List.map_append, signs_dom strs m hold j (by omega)]
    congr 1
    show [_] = [_]
    rw [one_of _ (hold (m - 1 - j) (by omega))]
    rfl
theorem key_nat (strs : List ByteArray) (i : Nat) : (UInt8.ofNat (keyAt strs i)).toNat = keyAt strs i := by
  rw [UInt8.toNat_ofNat']
  have := keyAt_lt strs i
  omega
theorem dom_tab (strs : List ByteArray) (m : Nat) : ∀ (j : Nat) (b : UInt8), (tabB (tabOf strs m j) b).isSome = true ↔ b ∈ domOf strs m j
  | 0, b => by
    show (Option.map _ (none : Option ByteArray)).isSome = true ↔ b ∈ []
    simp
  | j + 1, b => by
    have ih := dom_tab strs m j b
    unfold tabB at ih ⊢
    rw [Option.isSome_map] at ih ⊢
    show (if b.toNat = keyAt strs (m - 1 - j) then some (valAt strs (m - 1 - j)) else tabOf strs m j b.toNat).isSome = true ↔ _
    rw [domOf, List.mem_append, List.mem_singleton]
    by_cases e : b.toNat = keyAt strs (m - 1 - j)
    · rw [if_pos e]
      refine ⟨fun _ => .inr (UInt8.toNat_inj.1 (by rw [key_nat, e])), fun _ => rfl⟩
    · rw [if_neg e, ih]
      refine ⟨.inl, fun h => h.resolve_right fun hb => e (by rw [hb, key_nat])⟩
theorem dom_nodup (strs : List ByteArray) (m : Nat) (hd : ∀ i i', i < m → i' < m → keyAt strs i = keyAt strs i' → i = i') : ∀ j, j ≤ m → (domOf strs m j).Nodup
  | 0, _ => List.nodup_nil
  | j + 1, h => by
    have ih := dom_nodup strs m hd j (by omega)
    have hf := tabOf_fresh strs m j (by omega) hd
    rw [domOf, List.nodup_append]
    refine ⟨ih, by simp, ?_⟩
    intro a ha b hb
    rw [List.mem_singleton] at hb
    subst hb
    rintro rfl
    have := (dom_tab strs m j _).2 ha
    unfold tabB at this
    rw [key_nat, hf] at this
    cases this
theorem dom_length (strs : List ByteArray) (m : Nat) : ∀ j, (domOf strs m j).length = j
  | 0 => rfl
  | j + 1 => by rw [domOf, List.length_append, dom_length strs m j]; rfl
theorem tab_small (strs : List ByteArray) (m n : Nat) (hl : ∀ j : Nat, j < m → (rdOf ByteArray.empty strs ((2 * j + 1 : Nat) : Int)).size ≤ n) : ∀ (j : Nat) (_ : j ≤ m) (b : Nat) (x : ByteArray), tabOf strs m j b = some x → x.size ≤ n
  | 0, _, b, x, h => by cases h
  | j + 1, hj, b, x, h => by
    have h : (if b = keyAt strs (m - 1 - j) then some (valAt strs (m - 1 - j)) else tabOf strs m j b) = some x := h
    by_cases e : b = keyAt strs (m - 1 - j)
    · rw [if_pos e] at h
      injection h with h
      rw [← h]
      exact hl (m - 1 - j) (by omega)
    · rw [if_neg e] at h
      exact tab_small strs m n hl j (by omega) b x h
theorem Table.far {w : World} {R b i : Nat} {no : Option Nat} {tab : Nat → Option ByteArray} {last : Value} (h : Table w R no tab last) (hR : some R ≠ no) (hb : b < R) (x : Value) : Table (w.setCell ⟨b, i, none⟩ x) R no tab last :=
  h.move (fun g hg _ _ => set_other w b i g x (by omega)) hR (by rw [set_size]; exact Nat.le_refl _) (fun _ _ h => h)
theorem heap_set {w : World} {b i : Nat} {cur : Array Value} {t : TypeId} (h : w.heap[b]? = some (.cells cur t (0, 0))) (x : Value) : (w.setCell ⟨b, i, none⟩ x).heap[b]? = some (.cells (cur.setIfInBounds i x) t (0, 0)) := by
  rw [setCell_eq_setRow w b i cur t _ x h]
  exact setRow_heap w b cur _ _ _ h
theorem cell_of {w : World} {b i : Nat} {cur : Array Value} {t : TypeId} (h : w.heap[b]? = some (.cells cur t (0, 0))) : w.cell? ⟨b, i, none⟩ = cur[i]? ∧ w.frozen? ⟨b, i, none⟩ = false := by
  simp [World.cell?, World.frozen?, h]
theorem set_belowB {b i : Nat} {w : World} (x : Value) : Below b w (w.setCell ⟨b, i, none⟩ x) := set_below (Below.refl b w) b i (Nat.le_refl _) x
theorem whole (b base m : Nat) (v : Value) (strs : List ByteArray) (s : ByteArray) (w : World) (hb : w.heap[b]? = some (.cells #[.int .u32 0, .int .i32 0, .int .u32 0, .nilIface, v] 99 (0, 0))) (hR : Kd.string.R 9 w base (fun _ => True) v strs)
    (hm : strs.length = 2 * m) (h2 : 2 ≤ m) (hm3 : m ≤ 100) (hold : ∀ j : Nat, j < m → (rdOf ByteArray.empty strs ((2 * j : Nat) : Int)).size = 1) (hnew : ∃ j : Nat, j < m ∧ (rdOf ByteArray.empty strs ((2 * j + 1 : Nat) : Int)).size ≠ 1)
    (hlong : ∀ j : Nat, j < m → (rdOf ByteArray.empty strs ((2 * j + 1 : Nat) : Int)).size ≤ 1000) (hdist : ∀ i i', i < m → i' < m → keyAt strs i = keyAt strs i' → i = i') (hs : s.size ≤ 1073741824) :
    Calls Tryz.prog 40 #[.pointer (some ⟨b, 0, none⟩), .string s] w fun e w' => e = .returned (.string (outS (tabOf strs m m) s)) ∧ Below b w w' := by
  have hne : some b ≠ v.ownBlock := by
    intro e
    obtain ⟨cells, h2⟩ := Kd.R_typed hR b e.symm
    rw [hb] at h2
    injection h2 with h2
    injection h2 with _ h2
    exact absurd h2 (by decide)
  obtain ⟨A, c, rfl⟩ := Kd.R_slice hR
  -- the world in which the table is built
  obtain ⟨w0, hw0⟩ : ∃ w0, w0 = w.setCell ⟨b, 1, none⟩ (.int .i32 1) := ⟨_, rfl⟩
  have hb0 : w0.heap[b]? = some (.cells #[.int .u32 0, .int .i32 1, .int .u32 0, .nilIface, .slice A strs.length c] 99 (0, 0)) := by
    rw [hw0]
    exact heap_set hb _
  have hC0 : Kd.string.C w0 A strs.length strs := by
    have := R_setCell (i := 1) (x := .int .i32 1) hR hne
    rw [← hw0] at this
    exact (Kd.R_reads' this).2.2
  have hbl : b < w0.heap.size := (Array.getElem?_eq_some_iff.1 hb0).1
  have hbuild := BldM.build b A c m strs w0 (cell_of hb0).1 hC0 hm h2 hm3 hold hnew hlong hdist
  have hkeep : ∀ R w', BldM.Laid w0 strs m R w' → w'.heap[b]? = some (.cells #[.int .u32 0, .int .i32 1, .int .u32 0, .nilIface, .slice A strs.length c] 99 (0, 0)) := by
    rintro R w' ⟨v2, _, _, _, hB⟩
    exact (hB.block b hbl).trans hb0
  have honce := buildOnce b w0 (BldM.Laid w0 strs m) hbuild (fun R w' hq => ⟨_, _, (cell_of (hkeep R w' hq)).1, (cell_of (i := 3) (hkeep R w' hq)).2, (cell_of (hkeep R w' hq)).1, (cell_of (i := 4) (hkeep R w' hq)).2⟩)
  rw [hw0] at honce
  have hput : ∀ w', Put b (BldM.Laid w0 strs m) w' → ∃ R v3, w'.heap[b]? = some (.cells #[.int .u32 0, .int .i32 1, .int .u32 0, .iface 126 (.pointer (some ⟨R, 0, none⟩)), .slice none 0 0] 99 (0, 0)) ∧ b < R ∧ Table w' R v3.ownBlock (tabOf strs m m) v3 ∧ Kd.string.R 9 w' w0.heap.size (fun _ => True) v3 (signsOf strs m m) ∧ Below b w w' := by
    rintro w' ⟨R, w1, hq, rfl⟩
    have hk := hkeep R w1 hq
    obtain ⟨v2, hle, hT, hS, hB⟩ := hq
    have hbR : b < R := by omega
    have hn3 : some b ≠ v2.ownBlock := by
      intro e
      have := Kd.R_typed hS b e.symm
      obtain ⟨cells, h2⟩ := this
      rw [hk] at h2
      injection h2 with h2
      injection h2 with _ h2
      exact absurd h2 (by decide)
    refine ⟨R, v2, heap_set (heap_set hk _) _, hbR, Table.far (Table.far hT (hT.ne hS) hbR _) (hT.ne hS) hbR _, R_setCell (R_setCell hS hn3) hn3, ?_⟩
    have b1 : Below b w w0 := by rw [hw0]; exact set_belowB _
    exact ((b1.trans (hB.mono (by omega))).trans (set_belowB _)).trans (set_belowB _)
  have hdo := OnceM.once b w (Put b (BldM.Laid w0 strs m)) (cell_of hb).1 (cell_of hb).1 (cell_of (i := 1) hb).2 (by rw [← hw0] at honce ⊢; exact honce) (fun w' hq => by
    obtain ⟨R, v3, h3, _⟩ := hput w' hq
    exact ⟨(cell_of h3).1, (cell_of (i := 0) h3).2, (cell_of h3).1, (cell_of (i := 1) h3).2⟩)
  refine replace b s _ w _ _ hdo ?_
  rintro w' ⟨w1, hq, rfl⟩
  obtain ⟨R, v3, h3, hbR, hT, hS, hB⟩ := hput w1 hq
  have h3d : w1.drew.heap[b]? = _ := h3
  have h4 := heap_set (i := 1) (heap_set (i := 0) h3d (.int .u32 1)) (.int .i32 0)
  refine ⟨R, (cell_of h4).1, ?_⟩
  have hn3 : some b ≠ v3.ownBlock := by
    intro e
    obtain ⟨cells, h2⟩ := Kd.R_typed hS b e.symm
    rw [h3] at h2
    injection h2 with h2
    injection h2 with _ h2
    exact absurd h2 (by decide)
  have hTd : Table w1.drew R v3.ownBlock (tabOf strs m m) v3 := hT.move (fun _ _ _ _ => rfl) (hT.ne hS) (Nat.le_refl _) (fun _ _ h => h)
  have hSd : Kd.string.R 9 w1.drew w0.heap.size (fun _ => True) v3 (signsOf strs m m) := Kd.R_drew hS
  have hT2 := Table.far (i := 1) (Table.far (i := 0) hTd (hT.ne hS) hbR (.int .u32 1)) (hT.ne hS) hbR (.int .i32 0)
  have hS2 := R_setCell (i := 1) (x := .int .i32 0) (R_setCell (i := 0) (x := .int .u32 1) hSd hn3) hn3
  have hB2 : Below b w ((w1.drew.setCell ⟨b, 0, none⟩ (.int .u32 1)).setCell ⟨b, 1, none⟩ (.int .i32 0)) := by
    have hBd : Below b w w1.drew := ⟨hB.os, hB.tape, hB.output, hB.size, hB.block⟩
    exact (hBd.trans (set_belowB _)).trans (set_belowB _)
  generalize (w1.drew.setCell ⟨b, 0, none⟩ (.int .u32 1)).setCell ⟨b, 1, none⟩ (.int .i32 0) = w2 at *
  have hneR := hT2.ne hS2
  obtain ⟨A3, c3, hv3, hle3, hC3⟩ := Kd.R_reads hS2
  rw [signs_dom strs m hold m (Nat.le_refl _)] at hv3 hC3
  have hT3 := hT2
  rw [hv3] at hT3
  refine (BRepM.replace R w2 _ (tabOf strs m m) A3 c3 (domOf strs m m) s hT3 (by rw [← hv3]; exact hneR) hC3 (dom_nodup strs m hdist m (Nat.le_refl _)) (dom_tab strs m m) (tab_small strs m 1000 hlong m (Nat.le_refl _)) hs (by rw [dom_length]; omega)).mono ?_
  rintro e w3 ⟨rfl, h5⟩
  refine ⟨rfl, hB2.trans (h5.mono ?_)⟩
  have := (Array.getElem?_eq_some_iff.1 h4).1
  omega
end Go.Proofs.YtbhklkpjjpkblaaGreatDoorW.RepM
