/- A map whose keys are whole numbers, written by the call that made it: the write runs, and turns nothing but the map's own block. -/
import Derived.Test.YtaliphegdclkfaaWWords
import Derived.Test.YtaliphegdclkfaaWMore
import Derived.Test.YtaliphegdclkfaaWApart
import Derived.Test.YtaliphegdclkfaaWKept
import Derived.Test.YtaliphegdclkfaaWFootNe
import Derived.Test.YtaliphegdclkfaaWAt
import Derived.Maps.Own
import Derived.Carry
namespace Go.Proofs.YtaliphegdclkfaaW.IntMaps
open Go Go.RowKit Go.Instr Go.ChangeMaps Go.MapKept Go.Proofs.YtaliphegdclkfaaW.PrintWords Go.Proofs.YtaliphegdclkfaaW.PrintMore
def IntMap (w : World) (b : Nat) : Prop := ∃ es clock, w.heap[b]? = some (.map es clock) ∧ ∀ e ∈ es.toList, ∃ z, e.key = .int .i64 z
theorem findNow_int (a : Int) : ∀ (es : List MapEntry) (i : Nat), (∀ e ∈ es, ∃ z, e.key = .int .i64 z) → findNow (.int .i64) (.int .i64 a) es i = some none ∨ ∃ j v e, findNow (.int .i64) (.int .i64 a) es i = some (some (i + j, v)) ∧ es[j]? = some e ∧ e.key = .int .i64 a
  | [], i, _ => .inl rfl
  | e :: es, i, h => by
    obtain ⟨z, hz⟩ := h e (List.mem_cons_self ..)
    unfold findNow
    simp only [hz, sameNow, if_true]
    by_cases c : a = z
    · subst c
      simp only [BEq.rfl]
      exact .inr ⟨0, e.val, e, by simp, rfl, hz⟩
    · have : (a == z) = false := by simp [c]
      simp only [this]
      rcases findNow_int a es (i + 1) (fun x hx => h x (List.mem_cons_of_mem _ hx)) with h1 | ⟨j, v, e', h1, h2, h3⟩
      · exact .inl h1
      · exact .inr ⟨j + 1, v, e', by rw [h1]; congr 3; omega, by simpa using h2, h3⟩
theorem mapPut {P : Program} {w : World} {b : Nat} {t k e : TypeId} (ht : P.underlying t = some (.map k e)) (hk : P.underlying k = some (.int .i64)) (h : IntMap w b) (a : Int) (val : Value) :
    ∃ w', (Instr.mapUpdate t (.map (some b)) (.int .i64 a) val).run P w = .ok () w' ∧ IntMap w' b ∧ w.grownBy w' (some b) := by
  obtain ⟨es, clock, hb, hkeys⟩ := h
  have hcheck : (checkKey false 10000 k (.int .i64 a)).run P w = .ok () w := by
    unfold checkKey
    simp [run_underlying hk]
  have grown : ∀ (es' : Array MapEntry) (clock' : Nat), w.grownBy (setBlock w b (.map es' clock')) (some b) := fun es' clock' => ⟨rfl, rfl, rfl, by simp [setBlock], fun i _ hi => heap_setBlock_other hb _ (fun e => hi (by rw [e]))⟩
  rcases findNow_int a es.toList 0 hkeys with h1 | ⟨j, v, e0, h1, h2, h3⟩
  · refine ⟨setBlock w b (.map (es.push { key := .int .i64 a, val := val, born := clock }) (clock + 1)), ?_, ⟨_, _, heap_setBlock_same hb _, ?_⟩, grown _ _⟩
    · simp [Instr.mapUpdate, run_underlying ht, MapKept.run_getObj_map hb, hcheck, findKey, run_underlying hk, h1, MapKept.run_setObj_map _ hb, Result.andThen, setBlock]
    · intro x hx
      simp only [Array.toList_push, List.mem_append, List.mem_singleton] at hx
      rcases hx with hx | rfl
      · exact hkeys x hx
      · exact ⟨a, rfl⟩
  · have hj : es[j]? = some e0 := by rw [← Array.getElem?_toList]; exact h2
    refine ⟨setBlock w b (.map (es.modify j fun e => { e with key := .int .i64 a, val := val }) clock), ?_, ⟨_, _, heap_setBlock_same hb _, ?_⟩, grown _ _⟩
    · simp [Instr.mapUpdate, run_underlying ht, MapKept.run_getObj_map hb, hcheck, findKey, run_underlying hk, h1, keyThatStays, hj, h3, sameBits, MapKept.run_setObj_map _ hb, Result.andThen, setBlock]
    · intro x hx
      obtain ⟨i, hi⟩ := List.getElem?_of_mem hx
      rw [Array.getElem?_toList, Array.getElem?_modify] at hi
      split at hi
      · obtain ⟨y, _, rfl⟩ := Option.map_eq_some_iff.1 hi
        exact ⟨a, rfl⟩
      · exact hkeys x (List.mem_of_getElem? (by rw [Array.getElem?_toList]; exact hi))
section
variable {P : Program} {ops : Array Oper} {rest : List Oper} {o : Oper} {a : Act} {Q : Exit → Act → World → Prop} {W : World}
theorem gate_map {t : TypeId} {m x v : Operand} (_ho : o.op = .mapUpdate t m x v) (h : wpList P ops Q (o :: rest) a W) : wpList P ops Q (o :: rest) a W := h
theorem map_event (hg : o.guard = none) (t : TypeId) (hop : o.op = .makeMap t none) (h : ∀ b w', IntMap w' b → Below W.heap.size W w' → b = W.heap.size → wpList P ops Q rest (a.put o.dst (.map (some b))) w') : wpList P ops Q (o :: rest) a W := by
  refine wpList_plain hg fun K' hK' => ?_
  have hm := run_makeMap (P := P) t W
  unfold Oper.wp
  simp [execOp, hop, hm, Result.andThen]
  exact hK' _ _ (h W.heap.size (W.alloc (.map #[] 0)) ⟨#[], 0, heap_alloc_new W _, fun e he => by simp at he⟩ (below_alloc (Below.refl _ _) _) rfl)
theorem wpList_mapPut (hg : o.guard = none) (t : TypeId) (m x v : Operand) (hop : o.op = .mapUpdate t m x v) (k e : TypeId) (ht : P.underlying t = some (.map k e)) (hk : P.underlying k = some (.int .i64)) (b : Nat) (key : Int)
    (hm : a.eval m = .map (some b)) (hx : a.eval x = .int .i64 key) (h : IntMap W b) (hK : ∀ w', IntMap w' b → W.grownBy w' (some b) → wpList P ops Q rest (a.put o.dst undef) w') : wpList P ops Q (o :: rest) a W := by
  refine wpList_plain hg fun K' hK' => ?_
  obtain ⟨w', hrun, r1, r2⟩ := mapPut ht hk h key (a.eval v)
  unfold Oper.wp
  simp [execOp, hop, hm, hx, hrun, Result.andThen]
  exact hK' _ _ (hK w' r1 r2)
end
theorem IntMap.not_cell {W : World} {b : Nat} (h : IntMap W b) {ad : Addr} (hb : ad.block = b) : W.cell? ad = none := by
  obtain ⟨es, clock, hb2, _⟩ := h
  unfold World.cell?
  rw [hb, hb2]
theorem IntMap.not_cells {W : World} {b g : Nat} (h : IntMap W b) {c : Array Value} {t : TypeId} (hg : W.heap[g]? = some (.cells c t (0, 0))) : g ≠ b := by
  rintro rfl
  obtain ⟨es, clock, hb2, _⟩ := h
  rw [hg] at hb2
  cases hb2
theorem IntMap.keep {W W' : World} {b : Nat} (h : IntMap W b) (he : W'.heap[b]? = W.heap[b]?) : IntMap W' b := by
  obtain ⟨es, clock, hb2, h2⟩ := h
  exact ⟨es, clock, he.trans hb2, h2⟩
theorem IntMap.lt {W : World} {b : Nat} (h : IntMap W b) : b < W.heap.size := by
  obtain ⟨es, clock, hb2, _⟩ := h
  exact (Array.getElem?_eq_some_iff.1 hb2).1
def Maps (W : World) (ws : List Nat) : Prop := ∀ b ∈ ws, IntMap W b
theorem Maps.put {W W' : World} {ws : List Nat} {b : Nat} (h : Maps W ws) (hb : IntMap W' b) (hg : W.grownBy W' (some b)) : Maps W' ws := by
  intro c hc
  by_cases e : c = b
  · subst e; exact hb
  · exact (h c hc).keep (hg.block c (h c hc).lt (fun he => e (by injection he)))
theorem Maps.below {W W' : World} {ws : List Nat} (h : Maps W ws) (hb : Below W.heap.size W W') : Maps W' ws := fun c hc => (h c hc).keep (hb.block c (h c hc).lt)
theorem Maps.grown {W W' : World} {ws : List Nat} {row : Option Nat} (h : Maps W ws) (hg : W.grownBy W' row) (hr : ∀ b ∈ ws, some b ≠ row) : Maps W' ws := fun c hc => (h c hc).keep (hg.block c (h c hc).lt (hr c hc))
theorem reads_kept {α : Type} {d : Kd α} {W : World} {A : Option Addr} {n : Nat} {xs : List α} {ws : List Nat} (hd : ∀ {W W' : World} {x : α} {cs : List Value}, d.K W x cs → d.K W' x cs) (hs : 0 < d.sz) (h : d.C W A n xs) (hm : Maps W ws) : ∀ W', Kept W W' (fun k => k ∈ ws) → d.C W' A n xs :=
  Kd.C_foot_neS hd h (fun ad e hn hin => Kd.C_not_empty (ad := ad) (by rw [← e]; exact h) hn hs ((hm _ hin).not_cell rfl))
theorem block_kept {W : World} {g : Nat} {c : Array Value} {t : TypeId} {ws : List Nat} (hg : W.heap[g]? = some (.cells c t (0, 0))) (hm : Maps W ws) : ∀ W', Kept W W' (fun k => k ∈ ws) → W'.heap[g]? = some (.cells c t (0, 0)) :=
  fun _ hk => blk_kept hg hk (fun hin => (hm _ hin).not_cells hg rfl)
def kMap : Kd Nat := Kd.scalar (fun b => Value.map (some b)) (fun _ => rfl)
theorem at_map {w : World} {A : Option Addr} {n : Nat} {xs : List Nat} (h : kMap.C w A n xs) (i : Int) (h0 : 0 ≤ i) (h1 : i < n) : ∃ ad, A = some ad ∧ w.cell? (ad.add i.toNat) = some (.map (some (rdOf 0 xs i))) :=
  ReadsOf.at_ (Kd.reads_of_C (enc := fun b => Value.map (some b)) (d := (0 : Nat)) (h1 := fun _ => rfl) h) i h0 h1
end Go.Proofs.YtaliphegdclkfaaW.IntMaps
