/- Cells that were written with values of their own kind: what stays of what was known ahead of it. No program in sight. -/
import Derived.Test.YtbhklkpjjpkblaaDoorWWords
import Derived.Test.YtbhklkpjjpkblaaDoorWKept
namespace Go.Proofs.YtbhklkpjjpkblaaDoorW.Marks
open Go.RowKit Go.Proofs.YtbhklkpjjpkblaaDoorW.PrintWords
def Like (u v : Value) : Prop := u = v ∨ (∃ s t, u = .string s ∧ v = .string t) ∨ (∃ n m, u = .int .i64 n ∧ v = .int .i64 m) ∨ (∃ p q, u = .bool p ∧ v = .bool q)
theorem Like.trans {a b c : Value} (h : Like a b) (k : Like b c) : Like a c := by
  rcases h with rfl | ⟨s, t, rfl, rfl⟩ | ⟨n, m, rfl, rfl⟩ | ⟨p, q, rfl, rfl⟩
  · exact k
  · rcases k with rfl | ⟨s', t', _, rfl⟩ | ⟨n, m, h, _⟩ | ⟨p, q, h, _⟩
    · exact .inr (.inl ⟨_, _, rfl, rfl⟩)
    · exact .inr (.inl ⟨_, _, rfl, rfl⟩)
    · cases h
    · cases h
  · rcases k with rfl | ⟨s', t', h, _⟩ | ⟨n', m', _, rfl⟩ | ⟨p, q, h, _⟩
    · exact .inr (.inr (.inl ⟨_, _, rfl, rfl⟩))
    · cases h
    · exact .inr (.inr (.inl ⟨_, _, rfl, rfl⟩))
    · cases h
  · rcases k with rfl | ⟨s', t', h, _⟩ | ⟨n', m', h, _⟩ | ⟨p', q', _, rfl⟩
    · exact .inr (.inr (.inr ⟨_, _, rfl, rfl⟩))
    · cases h
    · cases h
    · exact .inr (.inr (.inr ⟨_, _, rfl, rfl⟩))
def Same (P : Nat → Prop) (w w' : World) : Prop := w.heap.size ≤ w'.heap.size ∧ ∀ k, k < w.heap.size → w'.heap[k]? = w.heap[k]? ∨ (P k ∧ ∃ c c' t, w.heap[k]? = some (.cells c t (0, 0)) ∧ w'.heap[k]? = some (.cells c' t (0, 0)) ∧ c'.size = c.size ∧ ∀ (i : Nat) (u : Value), c[i]? = some u → ∃ u', c'[i]? = some u' ∧ Like u u')
section
variable {P : Nat → Prop} {w w1 w2 : World}
theorem Same.refl (P : Nat → Prop) (w : World) : Same P w w := ⟨Nat.le_refl _, fun _ _ => .inl rfl⟩
theorem Same.below (h : Same P w w1) (hb : Below w1.heap.size w1 w2) : Same P w w2 := by
  refine ⟨Nat.le_trans h.1 hb.size, fun k hk => ?_⟩
  have e := hb.block k (Nat.lt_of_lt_of_le hk h.1)
  rcases h.2 k hk with h1 | ⟨hp, c, c', t, h1, h2, h3⟩
  · exact .inl (e.trans h1)
  · exact .inr ⟨hp, c, c', t, h1, e.trans h2, h3⟩
theorem Same.typed (h : Same P w w1) {g : Nat} {cs : Array Value} {t : TypeId} (hb : w.heap[g]? = some (.cells cs t (0, 0))) : ∃ c', w1.heap[g]? = some (.cells c' t (0, 0)) ∧ ∀ (i : Nat) (u : Value), cs[i]? = some u → ∃ u', c'[i]? = some u' ∧ Like u u' := by
  rcases h.2 g (blk_lt hb) with h1 | ⟨_, c, c', t', h1, h2, _, h3⟩
  · exact ⟨cs, h1.trans hb, fun i u hu => ⟨u, hu, .inl rfl⟩⟩
  · rw [hb] at h1
    injection h1 with h1
    injection h1 with h1 h1t
    subst h1
    subst h1t
    exact ⟨c', h2, h3⟩
theorem Same.cell (h : Same P w w1) {g o : Nat} {cs : Array Value} {t : TypeId} {u : Value} (hb : w.heap[g]? = some (.cells cs t (0, 0))) (hc : w.cell? ⟨g, o, none⟩ = some u) : ∃ u', w1.cell? ⟨g, o, none⟩ = some u' ∧ Like u u' ∧ w1.frozen? ⟨g, o, none⟩ = false := by
  obtain ⟨c', h1, h2⟩ := h.typed hb
  rw [blk_cell hb] at hc
  obtain ⟨u', h3, h4⟩ := h2 o u hc
  exact ⟨u', (blk_cell h1 o).trans h3, h4, blk_frozen h1 o⟩
theorem Same.str (h : Same P w w1) {g o : Nat} {cs : Array Value} {t : TypeId} {s : ByteArray} (hb : w.heap[g]? = some (.cells cs t (0, 0))) (hc : w.cell? ⟨g, o, none⟩ = some (.string s)) : ∃ s', w1.cell? ⟨g, o, none⟩ = some (.string s') ∧ w1.frozen? ⟨g, o, none⟩ = false := by
  obtain ⟨u', h1, h2, h3⟩ := h.cell hb hc
  rcases h2 with rfl | ⟨_, t, _, rfl⟩ | ⟨_, _, e, _⟩ | ⟨_, _, e, _⟩
  · exact ⟨s, h1, h3⟩
  · exact ⟨t, h1, h3⟩
  · cases e
  · cases e
theorem Same.num (h : Same P w w1) {g o : Nat} {cs : Array Value} {t : TypeId} {s : Int} (hb : w.heap[g]? = some (.cells cs t (0, 0))) (hc : w.cell? ⟨g, o, none⟩ = some (.int .i64 s)) : ∃ s', w1.cell? ⟨g, o, none⟩ = some (.int .i64 s') ∧ w1.frozen? ⟨g, o, none⟩ = false := by
  obtain ⟨u', h1, h2, h3⟩ := h.cell hb hc
  rcases h2 with rfl | ⟨_, _, e, _⟩ | ⟨_, m, _, rfl⟩ | ⟨_, _, e, _⟩
  · exact ⟨s, h1, h3⟩
  · cases e
  · exact ⟨m, h1, h3⟩
  · cases e
theorem Same.row (h : Same P w w1) {g o : Nat} {cs : Array Value} {t : TypeId} {A : Option Addr} {n c : Nat} (hb : w.heap[g]? = some (.cells cs t (0, 0))) (hc : w.cell? ⟨g, o, none⟩ = some (.slice A n c)) : w1.cell? ⟨g, o, none⟩ = some (.slice A n c) := by
  obtain ⟨u', h1, h2, h3⟩ := h.cell hb hc
  rcases h2 with rfl | ⟨_, _, e, _⟩ | ⟨_, _, e, _⟩ | ⟨_, _, e, _⟩
  · exact h1
  · cases e
  · cases e
  · cases e
theorem Same.put (h : Same P w w1) {g o : Nat} {cs : Array Value} {t : TypeId} {u v : Value} (hP : P g) (hb : w.heap[g]? = some (.cells cs t (0, 0))) (hc : w1.cell? ⟨g, o, none⟩ = some u) (hl : Like u v) : Same P w (w1.setCell ⟨g, o, none⟩ v) := by
  obtain ⟨c', h1, h2⟩ := h.typed hb
  have hz : (w1.setCell ⟨g, o, none⟩ v).heap.size = w1.heap.size := World.size_setCell w1 _ v
  refine ⟨by rw [hz]; exact h.1, fun k hk => ?_⟩
  by_cases e : k = g
  · subst e
    rw [blk_cell h1] at hc
    refine .inr ⟨hP, cs, c'.setIfInBounds o v, t, hb, blk_set h1 o v, ?_, fun i x hx => ?_⟩
    · rw [Array.size_setIfInBounds]
      rcases h.2 k hk with h3 | ⟨_, c3, c4, t3, h3, h4, h5, _⟩
      · rw [h3, hb] at h1
        injection h1 with h1
        injection h1 with h1
        rw [h1]
      · rw [hb] at h3
        rw [h1] at h4
        injection h3 with h3
        injection h3 with h3
        injection h4 with h4
        injection h4 with h4
        rw [h3, h4, h5]
    · obtain ⟨u', h3, h4⟩ := h2 i x hx
      by_cases ei : i = o
      · subst ei
        rw [hc] at h3
        injection h3 with h3
        subst h3
        refine ⟨v, ?_, h4.trans hl⟩
        have hlt : i < c'.size := (Array.getElem?_eq_some_iff.1 hc).1
        simp [hlt]
      · refine ⟨u', ?_, h4⟩
        rw [Array.getElem?_setIfInBounds_ne (by omega)]
        exact h3
  · have hf : (w1.setCell ⟨g, o, none⟩ v).heap[k]? = w1.heap[k]? := Below.heap_setCell w1 ⟨g, o, none⟩ v k e
    rcases h.2 k hk with h3 | ⟨hp, c3, c4, t3, h3, h4, h5⟩
    · exact .inl (hf.trans h3)
    · exact .inr ⟨hp, c3, c4, t3, h3, hf.trans h4, h5⟩
theorem Same.kept (h : Same P w w1) : Kept w w1 P := ⟨h.1, fun k hk hp => by
  rcases h.2 k hk with h1 | ⟨h1, _⟩
  · exact h1
  · exact absurd h1 hp⟩
end
end Go.Proofs.YtbhklkpjjpkblaaDoorW.Marks
