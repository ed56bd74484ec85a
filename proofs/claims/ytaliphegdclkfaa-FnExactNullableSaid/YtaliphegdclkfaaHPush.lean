/- What is appended to a net's rows when a node is done: one answer, two gathered rows. -/
import Derived.Test.YtaliphegdclkfaaHNet
set_option linter.unusedVariables false
namespace Go.Proofs.YtaliphegdclkfaaW.IntMaps
open Go Go.RowKit Go.Proofs.YtaliphegdclkfaaW.PrintWords Go.Proofs.YtaliphegdclkfaaW.PrintMore
def bL (n m : Nat) : Array Bool := ((List.range n).map (fun i => m.testBit i)).toArray
theorem one_reads {w : World} {b : Nat} {v : Value} {t : TypeId} (h : w.heap[b]? = some (.cells #[v] t (0, 0))) {α : Type} (x : α) : ReadsRow (fun (y : α) (cs : List Value) => y = x ∧ cs = [v]) 1 w (some ⟨b, 0, none⟩) 1 [x] := by
  refine ⟨rfl, by decide, fun _ => ⟨_, rfl, fun j p hj => ?_⟩⟩
  cases j with
  | zero =>
    refine ⟨[v], rfl, ⟨?_, rfl⟩, fun i u hu => ?_⟩
    · have e : x = p := by simpa using hj
      exact e.symm
    · cases i with
      | zero =>
        have e : v = u := by simpa using hu
        subst e
        exact (blk_cell h 0).trans rfl
      | succ i => simp at hu
  | succ j => simp at hj
section
variable {P : Program} {ops : Array Oper} {o : Oper} {a : Act} {Q : Exit → Act → World → Prop} {Kc : Act → World → Prop}
theorem lit1_step {W : World} (hw : Region.wanted o (yielded ops a.tmps) = true) {v : Value} {t : TypeId}
    (hrun : (execOp a.eval o).run P W = .ok (.value (.slice (some ⟨W.heap.size, 0, none⟩) 1 1)) (W.alloc (.cells #[v] t (0, 0))))
    (h : ∀ b w1, b = W.heap.size → w1.heap[b]? = some (.cells #[v] t (0, 0)) → Below W.heap.size W w1 → Kc (a.put o.dst (.slice (some ⟨b, 0, none⟩) 1 1)) w1) : if Region.wanted o (yielded ops a.tmps) = true then Oper.wp P o a W Kc Q else Kc (a.put o.dst undef) W :=
  event_step hw hrun (h _ _ rfl (blk_new W _) (below_alloc (Below.refl _ _) _))
variable {b0 : Nat} {w0 W W' : World} {gx : Nat} {bx : Array Value} {vn vf vl vw : Value} {nl : List Bool} {fs ls : List (List Int)} {ws : List Nat} {oF oL : Nat → Prop} {gb : Nat} {nd : Array Value} {v7 v8 : Value} {l7 l8 : List Int} {o7 o8 : Nat → Prop}
theorem NetL.cells {p a b c d e f g i : Value} {b0 : Nat} {w0 W : World} {gx : Nat} {vn vf vl vw : Value} {nl : List Bool} {fs ls : List (List Int)} {ws : List Nat} {oF oL : Nat → Prop} {gb : Nat} {v7 v8 : Value} {l7 l8 : List Int} {o7 o8 : Nat → Prop} (h : NetL b0 w0 W gx #[p, a, b, c, d] vn vf vl vw nl fs ls ws oF oL gb #[e, f, g, i] v7 v8 l7 l8 o7 o8) :
    W.cell? ⟨gx, 1, none⟩ = some a ∧ W.cell? ⟨gx, 2, none⟩ = some b ∧ W.cell? ⟨gx, 3, none⟩ = some c ∧ W.cell? ⟨gb, 0, none⟩ = some e ∧ W.cell? ⟨gb, 1, none⟩ = some f ∧ W.cell? ⟨gb, 2, none⟩ = some g ∧ W.cell? ⟨gb, 3, none⟩ = some i :=
  ⟨(blk_cell h.net.box 1).trans rfl, (blk_cell h.net.box 2).trans rfl, (blk_cell h.net.box 3).trans rfl, (blk_cell h.gbx 0).trans rfl, (blk_cell h.gbx 1).trans rfl, (blk_cell h.gbx 2).trans rfl, (blk_cell h.gbx 3).trans rfl⟩
theorem NetL.appN_step (h : NetL b0 w0 W gx bx vn vf vl vw nl fs ls ws oF oL gb nd v7 v8 l7 l8 o7 o8) (hw : Region.wanted o (yielded ops a.tmps) = true) (s x : Operand) (t : TypeId) (bytes : Nat) (b : Bool) (g : Nat) (hD : W.heap[g]? = some (.cells #[.bool b] 4 (0, 0)))
    (ho : o.op = .call { callee := .builtin .append, args := #[s, x], argTypes := #[t, t] })
    (ht : P.underlying t = some (.slice 4)) (hinfo : (P.info? 4).map (fun i => (i.zero, i.size, i.bytes)) = some (some (.bool false), 1, bytes)) (hb0 : 0 < bytes)
    (hs : a.eval s = vn) (hx : a.eval x = .slice (some ⟨g, 0, none⟩) 1 1) (hl : (nl.length + 1) * bytes ≤ 140737488355328)
    (k : ∀ v1 w1, NetL b0 w0 w1 gx bx v1 vf vl vw (nl ++ [b]) fs ls ws oF oL gb nd v7 v8 l7 l8 o7 o8 → W.grownBy w1 vn.ownBlock → Kc (a.put o.dst v1) w1) :
    if Region.wanted o (yielded ops a.tmps) = true then Oper.wp P o a W Kc Q else Kc (a.put o.dst undef) W := by
  refine Kd.R_append_rows_step Kd.bool (w0 := w0) b0 hw s x t 4 (.bool false) bytes ho ht hinfo rfl (by decide) hb0 vn nl [b] (some ⟨g, 0, none⟩) 1 1 (fun _ => True) (fun _ => False) hs hx h.net.rN (one_reads hD b) (fun y cs hy => by obtain ⟨rfl, rfl⟩ := hy; rfl) (fun _ hk => hk.elim) (fun _ _ => trivial) h.net.bel h.net.size hl ?_
  intro v1 w1 hr hb hg hat
  exact k v1 w1 (h.appN hg hr) hg
theorem NetL.pushF_step (h : NetL b0 w0 W gx bx vn vf vl vw nl fs ls ws oF oL gb nd v7 v8 l7 l8 o7 o8) (hw : Region.wanted o (yielded ops a.tmps) = true) (s x : Operand) (t : TypeId) (bytes : Nat) (g : Nat) (hD : W.heap[g]? = some (.cells #[v7] 41 (0, 0)))
    (ho : o.op = .call { callee := .builtin .append, args := #[s, x], argTypes := #[t, t] })
    (ht : P.underlying t = some (.slice 41)) (hinfo : (P.info? 41).map (fun i => (i.zero, i.size, i.bytes)) = some (some (.slice none 0 0), 1, bytes)) (hb0 : 0 < bytes)
    (hs : a.eval s = vf) (hx : a.eval x = .slice (some ⟨g, 0, none⟩) 1 1) (hl : (fs.length + 1) * bytes ≤ 140737488355328)
    (k : ∀ v1 w1, NetL b0 w0 w1 gx bx vn v1 vl vw nl (fs ++ [l7]) ls ws (fun k => (oF k ∨ o7 k) ∨ W.heap.size ≤ k) (fun k => oL k ∧ k < W.heap.size) gb nd (.slice none 0 0) v8 [] l8 (fun _ => False) (fun k => o8 k ∧ k < W.heap.size) → W.grownBy w1 vf.ownBlock → Kc (a.put o.dst v1) w1) :
    if Region.wanted o (yielded ops a.tmps) = true then Oper.wp P o a W Kc Q else Kc (a.put o.dst undef) W := by
  refine Kd.R_append_rows_step kII (w0 := w0) b0 hw s x t 41 (.slice none 0 0) bytes ho ht hinfo rfl (by decide) hb0 vf fs [l7] (some ⟨g, 0, none⟩) 1 1 (fun k => (oF k ∨ o7 k) ∨ W.heap.size ≤ k) (fun k => o7 k) hs hx (Kd.R_mono h.net.rF (fun _ hk => .inl (.inl hk))) (one_reads hD l7) (fun y cs hy => by obtain ⟨rfl, rfl⟩ := hy; exact ⟨v7, rfl, h.r7⟩) (fun k hk => ⟨.inl (.inr hk), fun he => h.d7F k hk (h.net.rF.1 k he.symm)⟩) (fun _ hk => .inr hk) h.net.bel h.net.size hl ?_
  intro v1 w1 hr hb hg hat
  exact k v1 w1 (h.pushF hg hr) hg
theorem NetL.pushL_step (h : NetL b0 w0 W gx bx vn vf vl vw nl fs ls ws oF oL gb nd v7 v8 l7 l8 o7 o8) (hw : Region.wanted o (yielded ops a.tmps) = true) (s x : Operand) (t : TypeId) (bytes : Nat) (g : Nat) (hD : W.heap[g]? = some (.cells #[v8] 41 (0, 0)))
    (ho : o.op = .call { callee := .builtin .append, args := #[s, x], argTypes := #[t, t] })
    (ht : P.underlying t = some (.slice 41)) (hinfo : (P.info? 41).map (fun i => (i.zero, i.size, i.bytes)) = some (some (.slice none 0 0), 1, bytes)) (hb0 : 0 < bytes)
    (hs : a.eval s = vl) (hx : a.eval x = .slice (some ⟨g, 0, none⟩) 1 1) (hl : (ls.length + 1) * bytes ≤ 140737488355328)
    (k : ∀ v1 w1, NetH b0 w0 w1 gx bx vn vf v1 vw nl fs (ls ++ [l8]) ws (fun k => oF k ∧ k < W.heap.size) (fun k => (oL k ∨ o8 k) ∨ W.heap.size ≤ k) → W.grownBy w1 vl.ownBlock → Kc (a.put o.dst v1) w1) :
    if Region.wanted o (yielded ops a.tmps) = true then Oper.wp P o a W Kc Q else Kc (a.put o.dst undef) W := by
  refine Kd.R_append_rows_step kII (w0 := w0) b0 hw s x t 41 (.slice none 0 0) bytes ho ht hinfo rfl (by decide) hb0 vl ls [l8] (some ⟨g, 0, none⟩) 1 1 (fun k => (oL k ∨ o8 k) ∨ W.heap.size ≤ k) (fun k => o8 k) hs hx (Kd.R_mono h.net.rL (fun _ hk => .inl (.inl hk))) (one_reads hD l8) (fun y cs hy => by obtain ⟨rfl, rfl⟩ := hy; exact ⟨v8, rfl, h.r8⟩) (fun k hk => ⟨.inl (.inr hk), fun he => h.d8L k hk (h.net.rL.1 k he.symm)⟩) (fun _ hk => .inr hk) h.net.bel h.net.size hl ?_
  intro v1 w1 hr hb hg hat
  exact k v1 w1 (h.pushL hg hr) hg
end
end Go.Proofs.YtaliphegdclkfaaW.IntMaps
