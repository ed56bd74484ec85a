/- The table of a replacer of bytes: what each byte becomes, as the world holds it. -/
import Derived.Test.YtbhklkpjjpkblaaGreatDoorProg
import Derived.Test.YtbhklkpjjpkblaaGreatDoorWWords
import Derived.Test.YtbhklkpjjpkblaaGreatDoorWKept
import Derived.Laws.Tables
import Derived.Laws.CopyOwn
import Derived.Laws.MakeOwn
namespace Go.Proofs.YtbhklkpjjpkblaaGreatDoorW.ReplM
open Go Go.RowKit Go.Proofs Go.Proofs.YtbhklkpjjpkblaaGreatDoorW.PrintWords
def Slot (w : World) (lo : Nat) (no : Option Nat) (x : Option ByteArray) (v : Value) : Prop :=
  match x with
  | none => v = .slice none 0 0
  | some s => ∃ g c, v = .slice (some ⟨g, 0, none⟩) s.size c ∧ lo ≤ g ∧ g < w.heap.size ∧ some g ≠ no ∧ ReadsInt w .u8 (some ⟨g, 0, none⟩) s.size (bytesOf s)
def Table (w : World) (R : Nat) (no : Option Nat) (tab : Nat → Option ByteArray) (last : Value) : Prop :=
  ∃ cs, w.heap[R]? = some (.cells cs 125 (0, 0)) ∧ cs.size = 257 ∧ cs[256]? = some last ∧ ∀ b, b < 256 → ∃ v, cs[b]? = some v ∧ Slot w (R + 1) no (tab b) v
theorem reads_move {w w1 : World} {k : IntKind} {g n : Nat} {xs : List Int} (h : ReadsInt w k (some ⟨g, 0, none⟩) n xs) (hg : w1.heap[g]? = w.heap[g]?) : ReadsInt w1 k (some ⟨g, 0, none⟩) n xs := by
  refine ⟨h.1, h.2.1, fun hn => ?_⟩
  obtain ⟨ad, e, hc⟩ := h.2.2 hn
  refine ⟨ad, e, fun j hj => ?_⟩
  have hb : (ad.add j).block = g := by cases e; rw [add_plain]
  exact (World.cell?_of_block (by rw [hb]; exact hg)).trans (hc j hj)
theorem Slot.move {w w1 : World} {lo : Nat} {no no1 : Option Nat} {x : Option ByteArray} {v : Value} (h : Slot w lo no x v) (hm : ∀ g, lo ≤ g → g < w.heap.size → some g ≠ no → w1.heap[g]? = w.heap[g]?) (hs : w.heap.size ≤ w1.heap.size) (hn : ∀ g, g < w.heap.size → some g ≠ no → some g ≠ no1) : Slot w1 lo no1 x v := by
  cases x with
  | none => exact h
  | some s =>
    obtain ⟨g, c, e, h1, h2, h3, h4⟩ := h
    exact ⟨g, c, e, h1, by omega, hn g h2 h3, reads_move h4 (hm g h1 h2 h3)⟩
variable {w w1 : World} {R : Nat} {no no1 : Option Nat} {tab : Nat → Option ByteArray} {last : Value}
theorem Table.lt (h : Table w R no tab last) : R < w.heap.size := by
  obtain ⟨cs, h1, _⟩ := h
  exact (Array.getElem?_eq_some_iff.1 h1).1
theorem Table.move (h : Table w R no tab last) (hm : ∀ g, R ≤ g → g < w.heap.size → some g ≠ no → w1.heap[g]? = w.heap[g]?) (hR : some R ≠ no) (hs : w.heap.size ≤ w1.heap.size) (hn : ∀ g, g < w.heap.size → some g ≠ no → some g ≠ no1) : Table w1 R no1 tab last := by
  have hlt := h.lt
  obtain ⟨cs, h1, h2, h3, h4⟩ := h
  refine ⟨cs, (hm R (Nat.le_refl _) hlt hR).trans h1, h2, h3, fun b hb => ?_⟩
  obtain ⟨v, h5, h6⟩ := h4 b hb
  exact ⟨v, h5, h6.move (fun g hg => hm g (by omega)) hs hn⟩
theorem Table.alloc (h : Table w R no tab last) (hR : some R ≠ no) (o : Obj) : Table (w.alloc o) R no tab last :=
  h.move (fun g _ hg _ => (below_alloc (Below.refl w.heap.size w) o).block g hg) hR (below_size (below_alloc (Below.refl _ _) o)) (fun _ _ h => h)
theorem Table.below (h : Table w R no tab last) (hR : some R ≠ no) (hb : Below w.heap.size w w1) : Table w1 R no tab last :=
  h.move (fun g _ hg _ => hb.block g hg) hR hb.size (fun _ _ h => h)
theorem Table.grown {v v1 : Value} (h : Table w R v.ownBlock tab last) (hR : some R ≠ v.ownBlock) (hg : w.grownBy w1 v.ownBlock) (hat : v1.ownBlock = v.ownBlock ∨ ∃ b, v1.ownBlock = some b ∧ w.heap.size ≤ b) : Table w1 R v1.ownBlock tab last := by
  refine h.move (fun g _ hl hn => hg.block g hl hn) hR hg.size (fun g hl hn => ?_)
  rcases hat with e | ⟨b, e, hb⟩
  · rw [e]; exact hn
  · rw [e]; intro he; injection he with he; omega
theorem Table.cell (h : Table w R no tab last) (b : Nat) (hb : b < 256) : ∃ v, w.cell? ⟨R, b, none⟩ = some v ∧ Slot w (R + 1) no (tab b) v := by
  obtain ⟨cs, h1, h2, h3, h4⟩ := h
  obtain ⟨v, h5, h6⟩ := h4 b hb
  exact ⟨v, by simp [World.cell?, h1, h5], h6⟩
theorem Table.lastCell (h : Table w R no tab last) : w.cell? ⟨R, 256, none⟩ = some last := by
  obtain ⟨cs, h1, h2, h3, h4⟩ := h
  simp [World.cell?, h1, h3]
theorem Table.frozen (h : Table w R no tab last) (i : Nat) : w.frozen? ⟨R, i, none⟩ = false := by
  obtain ⟨cs, h1, _⟩ := h
  simp [World.frozen?, h1]
theorem set_other (w : World) (R i g : Nat) (v : Value) (hg : g ≠ R) : (w.setCell ⟨R, i, none⟩ v).heap[g]? = w.heap[g]? := by
  unfold World.setCell
  simp [Array.getElem?_modify, Ne.symm hg]
theorem set_size (w : World) (a : Addr) (v : Value) : (w.setCell a v).heap.size = w.heap.size := by
  unfold World.setCell
  simp
theorem set_below {B : Nat} {w0 w : World} (h : Below B w0 w) (R i : Nat) (hR : B ≤ R) (v : Value) : Below B w0 (w.setCell ⟨R, i, none⟩ v) :=
  h.trans ⟨rfl, rfl, rfl, by rw [set_size]; exact Nat.le_refl _, fun g hg => set_other w R i g v (by omega)⟩
theorem Table.put (h : Table w R no tab last) (b : Nat) (hb : b < 256) (s : ByteArray) (v : Value) (hv : Slot w (R + 1) no (some s) v) : Table (w.setCell ⟨R, b, none⟩ v) R no (fun k => if k = b then some s else tab k) last := by
  obtain ⟨cs, h1, h2, h3, h4⟩ := h
  have hmv : ∀ x u, Slot w (R + 1) no x u → Slot (w.setCell ⟨R, b, none⟩ v) (R + 1) no x u := fun x u hu => hu.move (fun g hg _ _ => set_other w R b g v (by omega)) (by rw [set_size]; exact Nat.le_refl _) (fun _ _ h => h)
  refine ⟨cs.setIfInBounds b v, ?_, by simp [h2], by rw [Array.getElem?_setIfInBounds_ne (by omega)]; exact h3, fun k hk => ?_⟩
  · rw [setCell_eq_setRow w R b cs _ _ v h1]
    exact setRow_heap w R cs _ _ _ h1
  · by_cases e : k = b
    · subst e
      refine ⟨v, by rw [Array.getElem?_setIfInBounds_self_of_lt (by omega)], ?_⟩
      show Slot _ _ _ (if k = k then some s else tab k) v
      rw [if_pos rfl]
      exact hmv _ _ hv
    · obtain ⟨u, h5, h6⟩ := h4 k hk
      refine ⟨u, by rw [Array.getElem?_setIfInBounds_ne (Ne.symm e)]; exact h5, ?_⟩
      show Slot _ _ _ (if k = b then some s else tab k) u
      rw [if_neg e]
      exact hmv _ _ h6
theorem Table.setLast (h : Table w R no tab last) (v : Value) : Table (w.setCell ⟨R, 256, none⟩ v) R no tab v := by
  obtain ⟨cs, h1, h2, h3, h4⟩ := h
  have hmv : ∀ x u, Slot w (R + 1) no x u → Slot (w.setCell ⟨R, 256, none⟩ v) (R + 1) no x u := fun x u hu => hu.move (fun g hg _ _ => set_other w R 256 g v (by omega)) (by rw [set_size]; exact Nat.le_refl _) (fun _ _ h => h)
  refine ⟨cs.setIfInBounds 256 v, ?_, by simp [h2], by simp [h2], fun k hk => ?_⟩
  · rw [setCell_eq_setRow w R 256 cs _ _ v h1]
    exact setRow_heap w R cs _ _ _ h1
  · obtain ⟨u, h5, h6⟩ := h4 k hk
    exact ⟨u, by rw [Array.getElem?_setIfInBounds_ne (by omega)]; exact h5, hmv _ _ h6⟩
def keyAt (strs : List ByteArray) (i : Nat) : Nat := (bt (rdOf ByteArray.empty strs ((2 * i : Nat) : Int)) 0).toNat
def valAt (strs : List ByteArray) (i : Nat) : ByteArray := rdOf ByteArray.empty strs ((2 * i + 1 : Nat) : Int)
def tabOf (strs : List ByteArray) (m : Nat) : Nat → Nat → Option ByteArray
  | 0 => fun _ => none
  | j + 1 => fun b => if b = keyAt strs (m - 1 - j) then some (valAt strs (m - 1 - j)) else tabOf strs m j b
def signsOf (strs : List ByteArray) (m : Nat) : Nat → List ByteArray
  | 0 => []
  | j + 1 => signsOf strs m j ++ [rdOf ByteArray.empty strs ((2 * (m - 1 - j) : Nat) : Int)]
theorem tabOf_some (strs : List ByteArray) (m : Nat) : ∀ (j : Nat) (_ : j ≤ m) (b : Nat), tabOf strs m j b ≠ none → ∃ i, m - j ≤ i ∧ i < m ∧ keyAt strs i = b
  | 0, _, b, h => absurd rfl h
  | j + 1, hj, b, h => by
    by_cases e : b = keyAt strs (m - 1 - j)
    · exact ⟨m - 1 - j, by omega, by omega, e.symm⟩
    · have h : tabOf strs m j b ≠ none := by
        intro hh
        refine h ?_
        show (if b = keyAt strs (m - 1 - j) then some (valAt strs (m - 1 - j)) else tabOf strs m j b) = none
        rw [if_neg e]
        exact hh
      obtain ⟨i, h1, h2, h3⟩ := tabOf_some strs m j (by omega) b h
      exact ⟨i, by omega, h2, h3⟩
theorem tabOf_fresh (strs : List ByteArray) (m j : Nat) (hj : j < m) (hd : ∀ i i', i < m → i' < m → keyAt strs i = keyAt strs i' → i = i') : tabOf strs m j (keyAt strs (m - 1 - j)) = none := by
  cases h : tabOf strs m j (keyAt strs (m - 1 - j)) with
  | none => rfl
  | some x =>
    obtain ⟨i, h1, h2, h3⟩ := tabOf_some strs m j (by omega) _ (by rw [h]; simp)
    have := hd i (m - 1 - j) h2 (by omega) h3
    omega
theorem signsOf_length (strs : List ByteArray) (m : Nat) : ∀ j, (signsOf strs m j).length = j
  | 0 => rfl
  | j + 1 => by rw [signsOf, List.length_append, signsOf_length strs m j]; rfl
theorem keyAt_lt (strs : List ByteArray) (i : Nat) : keyAt strs i < 256 := by
  have := bt_range (rdOf ByteArray.empty strs ((2 * i : Nat) : Int)) 0
  unfold keyAt
  omega
def empties (n : Nat) : Array Value := (List.replicate n (Value.slice none 0 0)).toArray
theorem empties_size (n : Nat) : (empties n).size = n := by unfold empties; simp
theorem empties_at (n i : Nat) (h : i < n) : (empties n)[i]? = some (.slice none 0 0) := by unfold empties; simp [h]
theorem Table.start (w : World) (R : Nat) (last : Value) (no : Option Nat) (hw : w.heap[R]? = some (.cells ((empties 257).setIfInBounds 256 last) 125 (0, 0))) : Table w R no (fun _ => none) last := by
  have hs := empties_size 257
  refine ⟨_, hw, by rw [Array.size_setIfInBounds, hs], Array.getElem?_setIfInBounds_self_of_lt (by rw [hs]; omega), fun b hb => ⟨.slice none 0 0, ?_, rfl⟩⟩
  rw [Array.getElem?_setIfInBounds_ne (by omega)]
  exact empties_at 257 b (by omega)
theorem Table.ne {base : Nat} {ok : Nat → Prop} {xs : List ByteArray} {last : Value} (h : Table w R no tab last) {v : Value} (hr : Kd.string.R 9 w base ok v xs) : some R ≠ v.ownBlock := by
  intro e
  obtain ⟨cs, h1, _⟩ := h
  obtain ⟨cells, h2⟩ := Kd.R_typed hr R e.symm
  rw [h1] at h2
  injection h2 with h2
  injection h2 with _ h2
  exact absurd h2 (by decide)
theorem R_setCell {e base R i : Nat} {w : World} {v x : Value} {xs : List ByteArray} (h : Kd.string.R e w base (fun _ => True) v xs) (hne : some R ≠ v.ownBlock) : Kd.string.R e (w.setCell ⟨R, i, none⟩ x) base (fun _ => True) v xs :=
  Kd.R_mono (Kd.R_move (Kd.R_tight rfl h) (fun k hk => set_other w R i k x (by rintro rfl; exact hne hk))) (fun _ _ => trivial)
theorem own_small {e base k : Nat} {ok : Nat → Prop} {w : World} {v : Value} {xs : List ByteArray} (h : Kd.string.R e w base ok v xs) (hk : some k = v.ownBlock) : k < w.heap.size := by
  obtain ⟨cells, h2⟩ := Kd.R_typed h k hk.symm
  exact (Array.getElem?_eq_some_iff.1 h2).1
theorem slot_bytes {e t base : Nat} {ok : Nat → Prop} {w : World} {v : Value} {xs : List ByteArray} {R c : Nat} (hR : R < w.heap.size) (h : Kd.string.R e w base ok v xs) (s : ByteArray) (hs : s.size ≤ 9223372036854775807) :
    Slot (Lib.bytesWorld w t s) (R + 1) v.ownBlock (some s) (.slice (some ⟨w.heap.size, 0, none⟩) s.size c) :=
  ⟨w.heap.size, c, rfl, hR, by rw [Lib.bytesWorld_size]; omega, fun hk => by have := own_small h hk; omega, bytes_reads w t s hs⟩
theorem strOfNums_bytes (s : ByteArray) : strOfNums (bytesOf s) = s := by
  have e : (strOfNums (bytesOf s)).data.toList = s.data.toList := by
    rw [strOfNums_data, bytesOf, List.map_map]
    refine (List.map_congr_left (g := id) fun b _ => ?_).trans (List.map_id _)
    show UInt8.ofNat ((b.toNat : Int)).toNat = b
    rw [Int.toNat_natCast]
    exact UInt8.ofNat_toNat
  have e2 : (strOfNums (bytesOf s)).data = s.data := Array.toList_inj.1 e
  cases s with
  | mk d => exact congrArg ByteArray.mk e2
theorem str_one (s : ByteArray) (hs : s.size = 1) : strOfNums [bt s 0] = s := by
  have h := strOfNums_bytes s
  have e : bytesOf s = [bt s 0] := by
    apply List.ext_getElem?
    intro i
    have hl := bytesOf_length s
    have hr := rd_bytesOf s 0
    match i with
    | 0 =>
      have h0 : (bytesOf s)[0]? = some ((bytesOf s)[0]'(by omega)) := List.getElem?_eq_getElem _
      rw [h0, ← hr]
      simp [rd, List.getD_eq_getElem?_getD, h0]
    | i + 1 => rw [List.getElem?_eq_none (by omega)]; rfl
  rw [← e]
  exact h
theorem conv_one {P : Program} {src dst e : TypeId} (hs : P.underlying src = some (.slice e)) (he : P.underlying e = some (.int .u8)) (hd : P.underlying dst = some .string) (s : ByteArray) (h1 : s.size = 1) (W : World) :
    (convert src dst (.slice (some ⟨W.heap.size, 0, none⟩) 1 1)).run P (W.alloc (.cells #[.int .u8 (bt s 0)] e (0, 0))) = .ok (.string s) (W.alloc (.cells #[.int .u8 (bt s 0)] e (0, 0))) := by
  have hr : ReadsInt (W.alloc (.cells #[.int .u8 (bt s 0)] e (0, 0))) .u8 (some ⟨W.heap.size, 0, none⟩) 1 [bt s 0] := by
    refine ⟨rfl, by omega, fun _ => ⟨_, rfl, fun j hj => ?_⟩⟩
    obtain rfl : j = 0 := by omega
    rw [add_plain]
    have hb := blk_new W (.cells #[.int .u8 (bt s 0)] e (0, 0))
    unfold World.cell?
    dsimp only
    rw [hb]
    rfl
  rw [string_of_reads hs he hd hr, str_one s h1]
def outB (tab : UInt8 → Option (List UInt8)) (b : UInt8) : List UInt8 := match tab b with | some x => x | none => [b]
def outT (tab : UInt8 → Option (List UInt8)) (l : List UInt8) : List UInt8 := l.flatMap (outB tab)
theorem outT_cons (tab : UInt8 → Option (List UInt8)) (b : UInt8) (l : List UInt8) : outT tab (b :: l) = outB tab b ++ outT tab l := by unfold outT; rw [List.flatMap_cons]
def more (tab : UInt8 → Option (List UInt8)) (b : UInt8) : Int := (((tab b).getD []).length : Int) - 1
theorem outB_length (tab : UInt8 → Option (List UInt8)) (b : UInt8) : ((outB tab b).length : Int) = 1 + if (tab b).isSome = true then more tab b else 0 := by
  unfold outB more
  cases tab b with
  | none => simp
  | some x => simp; omega
def signSum (tab : UInt8 → Option (List UInt8)) (l : List UInt8) : List UInt8 → Int
  | [] => 0
  | c :: dom => (l.count c : Int) * more tab c + signSum tab l dom
theorem signSum_nil (tab : UInt8 → Option (List UInt8)) : ∀ dom : List UInt8, signSum tab [] dom = 0
  | [] => rfl
  | c :: dom => by rw [signSum, signSum_nil tab dom]; simp
theorem signSum_cons (tab : UInt8 → Option (List UInt8)) (b : UInt8) (l : List UInt8) : ∀ dom : List UInt8, dom.Nodup → signSum tab (b :: l) dom = signSum tab l dom + if b ∈ dom then more tab b else 0
  | [], _ => by simp [signSum]
  | c :: dom, hn => by
    have hd := List.nodup_cons.1 hn
    have ih := signSum_cons tab b l dom hd.2
    rw [signSum, signSum, ih, List.count_cons]
    by_cases e : b = c
    · subst e
      rw [if_neg hd.1, if_pos List.mem_cons_self, if_pos (by simp)]
      rw [show ((l.count b + 1 : Nat) : Int) = (l.count b : Int) + 1 by omega, Int.add_mul, Int.one_mul]
      omega
    · rw [if_neg (by simpa using e)]
      have : (b ∈ c :: dom) ↔ b ∈ dom := by
        rw [List.mem_cons]
        exact ⟨fun h => h.resolve_left e, Or.inr⟩
      simp only [this, Nat.add_zero]
      omega
theorem size_signs (tab : UInt8 → Option (List UInt8)) (dom : List UInt8) (hn : dom.Nodup) (hd : ∀ b, (tab b).isSome = true ↔ b ∈ dom) : ∀ l : List UInt8, ((outT tab l).length : Int) = (l.length : Int) + signSum tab l dom
  | [] => by rw [signSum_nil]; rfl
  | b :: l => by
    have ih := size_signs tab dom hn hd l
    have hb := outB_length tab b
    rw [outT_cons, List.length_append, signSum_cons tab b l dom hn, List.length_cons]
    by_cases h : b ∈ dom
    · rw [if_pos ((hd b).2 h)] at hb
      rw [if_pos h]
      omega
    · rw [if_neg (fun hh => h ((hd b).1 hh))] at hb
      rw [if_neg h]
      omega
theorem outT_same (tab : UInt8 → Option (List UInt8)) : ∀ l : List UInt8, (∀ b ∈ l, tab b = none) → outT tab l = l
  | [], _ => rfl
  | b :: l, h => by
    rw [outT_cons, outT_same tab l (fun x hx => h x (List.mem_cons_of_mem _ hx))]
    unfold outB
    rw [h b List.mem_cons_self]
    rfl
theorem none_of_counts (tab : UInt8 → Option (List UInt8)) (dom l : List UInt8) (hd : ∀ b, (tab b).isSome = true ↔ b ∈ dom) (h : ∀ c ∈ dom, l.count c = 0) : ∀ b ∈ l, tab b = none := by
  intro b hb
  cases ht : tab b with
  | none => rfl
  | some x =>
    have hm : b ∈ dom := (hd b).1 (by rw [ht]; rfl)
    exact absurd hb (List.count_eq_zero.1 (h b hm))
theorem signSum_snoc (tab : UInt8 → Option (List UInt8)) (l : List UInt8) (b : UInt8) : ∀ xs, signSum tab l (xs ++ [b]) = signSum tab l xs + (l.count b : Int) * more tab b
  | [] => by show (l.count b : Int) * more tab b + 0 = 0 + _; omega
  | x :: xs => by
    show (l.count x : Int) * more tab x + signSum tab l (xs ++ [b]) = (l.count x : Int) * more tab x + signSum tab l xs + _
    rw [signSum_snoc tab l b xs]
    omega
theorem wrap_add (a e : Int) : wrap64 (wrap64 a + e) = wrap64 (a + e) := by unfold wrap64; omega
theorem mul_small (c d : Int) (h0 : 0 ≤ c) (h1 : c ≤ 1073741824) (h2 : -1 ≤ d) (h3 : d ≤ 1000) : -1073741824 ≤ c * d ∧ c * d ≤ 1073741824000 := by
  rcases Int.lt_or_le d 0 with h | h
  · obtain rfl : d = -1 := by omega
    omega
  · have a1 : 0 ≤ c * d := Int.mul_nonneg h0 h
    have a2 : c * d ≤ 1073741824 * d := Int.mul_le_mul_of_nonneg_right h1 h
    omega
theorem outT_snoc (tab : UInt8 → Option (List UInt8)) (b : UInt8) : ∀ l, outT tab (l ++ [b]) = outT tab l ++ outB tab b
  | [] => by rw [List.nil_append, outT_cons]; show outB tab b ++ [] = [] ++ outB tab b; rw [List.append_nil, List.nil_append]
  | x :: l => by rw [List.cons_append, outT_cons, outT_snoc tab b l, outT_cons, List.append_assoc]
theorem outT_bound (tab : UInt8 → Option (List UInt8)) (n : Nat) (hn : 1 ≤ n) (h : ∀ b x, tab b = some x → x.length ≤ n) : ∀ l : List UInt8, (outT tab l).length ≤ n * l.length
  | [] => by simp [outT]
  | b :: l => by
    have ih := outT_bound tab n hn h l
    have hb : (outB tab b).length ≤ n := by
      unfold outB
      cases e : tab b with
      | none => simpa using hn
      | some x => exact h b x e
    rw [outT_cons, List.length_append, List.length_cons, Nat.mul_succ]
    omega
def tabB (tab : Nat → Option ByteArray) (b : UInt8) : Option (List UInt8) := (tab b.toNat).map fun s => s.data.toList
def outS (tab : Nat → Option ByteArray) (s : ByteArray) : ByteArray := ⟨(outT (tabB tab) s.data.toList).toArray⟩
def cellB (b : UInt8) : Value := .int .u8 (b.toNat : Int)
def fillAt (N : Nat) (xs : List UInt8) : List Value := xs.map cellB ++ List.replicate (N - xs.length) (.int .u8 0)
theorem fillAt_length (N : Nat) (xs : List UInt8) (h : xs.length ≤ N) : (fillAt N xs).length = N := by
  unfold fillAt
  rw [List.length_append, List.length_map, List.length_replicate]
  omega
theorem fillAt_splice (N : Nat) (xs ys : List UInt8) (h : xs.length + ys.length ≤ N) : splice (fillAt N xs) xs.length (ys.map cellB) = fillAt N (xs ++ ys) := by
  have h1 : (fillAt N xs).take xs.length = xs.map cellB := by
    unfold fillAt
    rw [List.take_append_of_le_length (by rw [List.length_map]; exact Nat.le_refl _)]
    exact List.take_of_length_le (by rw [List.length_map]; exact Nat.le_refl _)
  have h2 : (fillAt N xs).drop (xs.length + ys.length) = List.replicate (N - (xs ++ ys).length) (.int .u8 0) := by
    unfold fillAt
    rw [List.drop_append, List.drop_eq_nil_of_le (by rw [List.length_map]; omega), List.nil_append, List.length_map, List.drop_replicate, List.length_append]
    congr 1
    omega
  unfold splice
  rw [List.length_map, h1, h2]
  unfold fillAt
  rw [List.map_append, List.append_assoc]
theorem fillAt_set (N : Nat) (xs : List UInt8) (b : UInt8) (h : xs.length < N) : (fillAt N xs).set xs.length (cellB b) = fillAt N (xs ++ [b]) := by
  unfold fillAt
  rw [List.set_append_right _ _ (by rw [List.length_map]; exact Nat.le_refl _), List.length_map, Nat.sub_self, List.length_append, List.length_singleton, List.map_append, List.append_assoc]
  congr 1
  rw [show N - xs.length = (N - (xs.length + 1)) + 1 by omega, List.replicate_succ]
  rfl
theorem fillAt_zero (N : Nat) : (fillAt N []).toArray = madeCells #[.int .u8 0] N := by
  apply Array.ext
  · rw [List.size_toArray, fillAt_length N [] (by simp), size_madeCells]
  · intro i h1 h2
    simp [fillAt, madeCells, Nat.mod_one]
theorem fillAt_reads (w : World) (G N : Nat) (t : TypeId) (xs : List UInt8) (hx : xs.length = N) (hN : N ≤ 9223372036854775807) (h : w.heap[G]? = some (.cells (fillAt N xs).toArray t (0, 0))) : ReadsInt w .u8 (some ⟨G, 0, none⟩) N (xs.map fun b => (b.toNat : Int)) := by
  refine ⟨by rw [List.length_map]; exact hx, hN, fun _ => ⟨_, rfl, fun j hj => ?_⟩⟩
  rw [add_plain]
  unfold World.cell?
  dsimp only
  rw [h]
  have e : (fillAt N xs)[j]? = some (cellB (xs[j]'(by omega))) := by
    unfold fillAt
    rw [List.getElem?_append_left (by rw [List.length_map]; omega), List.getElem?_map, List.getElem?_eq_getElem (by omega)]
    rfl
  show (fillAt N xs).toArray[j]? = _
  rw [List.getElem?_toArray, e]
  unfold cellB
  rw [List.getD_eq_getElem?_getD, List.getElem?_map, List.getElem?_eq_getElem (by omega)]
  rfl
theorem str_list (xs : List UInt8) : strOfNums (xs.map fun b => (b.toNat : Int)) = ⟨xs.toArray⟩ := by
  have h := strOfNums_bytes ⟨xs.toArray⟩
  unfold bytesOf at h
  simpa using h
theorem outT_append (tab : UInt8 → Option (List UInt8)) : ∀ l k, outT tab (l ++ k) = outT tab l ++ outT tab k
  | [], k => by rw [List.nil_append]; rfl
  | x :: l, k => by rw [List.cons_append, outT_cons, outT_append tab l k, outT_cons, List.append_assoc]
theorem outT_take (tab : UInt8 → Option (List UInt8)) (l : List UInt8) (k : Nat) : (outT tab (l.take k)).length ≤ (outT tab l).length := by
  have h := congrArg List.length (outT_append tab (l.take k) (l.drop k))
  rw [List.take_append_drop, List.length_append] at h
  omega
theorem outS_same (tab : Nat → Option ByteArray) (s : ByteArray) (h : ∀ b ∈ s.data.toList, tabB tab b = none) : outS tab s = s := by
  unfold outS
  rw [outT_same _ _ h, Array.toArray_toList]
theorem cells_of_reads {w : World} {g : Nat} {s : ByteArray} (h : ReadsInt w .u8 (some ⟨g, 0, none⟩) s.size (bytesOf s)) (j : Nat) (v : Value) (hv : (s.data.toList.map cellB)[j]? = some v) : w.cell? ((⟨g, 0, none⟩ : Addr).add j) = some v := by
  have hj : j < s.size := by
    have := (List.getElem?_eq_some_iff.1 hv).1
    rw [List.length_map, data_length] at this
    exact this
  obtain ⟨ad, e, hc⟩ := h.2.2 (by omega)
  injection e with e
  rw [e, hc j hj, ← hv]
  unfold bytesOf
  have hl : j < s.data.toList.length := by rw [data_length]; exact hj
  rw [List.getD_eq_getElem?_getD, List.getElem?_map, List.getElem?_map, List.getElem?_eq_getElem hl]
  rfl
theorem cut_row {P : Program} (t e : TypeId) (kl : IntKind) {i : TypeInfo} (ht : P.underlying t = some (.slice e)) (hi : P.info? e = some i) (hsz : i.size = 1) (G N m : Nat) (hm : m ≤ N) :
    ∃ A' : Option Addr, (∀ W : World, (Instr.slice t (.slice (some ⟨G, 0, none⟩) N N) (some (.int kl (m : Int))) none none).run P W = .ok (.slice A' (N - m) (N - m)) W) ∧ (m < N → A' = some ⟨G, m, none⟩) := by
  refine ⟨if N = m then some ⟨G, 0, none⟩ else (some (⟨G, 0, none⟩ : Addr)).map (·.add m), fun W => ?_, fun h => ?_⟩
  · have hel : P.elem t = e := by simp [Program.elem, ht]
    have hu : P.underlying t = some (.slice (P.elem t)) := by rw [hel]; exact ht
    rw [run_slice_l W t _ N N hu kl (m : Int) (Int.natCast_nonneg _) (by omega), hel]
    simp [sizeOf, typeInfo, hi, hsz, sliced, Result.andThen]
  · rw [if_neg (by omega), Option.map_some, add_plain]
end Go.Proofs.YtbhklkpjjpkblaaGreatDoorW.ReplM
