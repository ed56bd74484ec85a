/- What a net of a model is in memory while it is built: its box, its four rows, the two rows that are being gathered; and what one step of the program leaves of it. -/
import Derived.Test.YtaliphegdclkfaaHMaps
set_option linter.unusedVariables false
namespace Go.Proofs.YtaliphegdclkfaaW.IntMaps
open Go Go.RowKit Go.Proofs.YtaliphegdclkfaaW.PrintWords Go.Proofs.YtaliphegdclkfaaW.PrintMore
abbrev kI : Kd Int := Kd.int .i64
abbrev kII : Kd (List Int) := Kd.slice 2 (Kd.int .i64)
structure NetH (b0 : Nat) (w0 W : World) (gx : Nat) (bx : Array Value) (vn vf vl vw : Value) (nl : List Bool) (fs ls : List (List Int)) (ws : List Nat) (oF oL : Nat → Prop) : Prop where
  bel : Below b0 w0 W
  size : b0 ≤ W.heap.size
  gxb : b0 ≤ gx
  box : W.heap[gx]? = some (.cells bx 77 (0, 0))
  maps : Maps W ws
  wsb : ∀ b ∈ ws, b0 ≤ b
  rW : kMap.R 78 W b0 (fun _ => True) vw ws
  rN : Kd.bool.R 4 W b0 (fun _ => True) vn nl
  rF : kII.R 41 W b0 oF vf fs
  rL : kII.R 41 W b0 oL vl ls
  dFL : ∀ k, oF k → ¬ oL k
section
variable {b0 : Nat} {w0 W W' : World} {gx : Nat} {bx : Array Value} {vn vf vl vw : Value} {nl : List Bool} {fs ls : List (List Int)} {ws : List Nat} {oF oL : Nat → Prop}
theorem NetH.below (h : NetH b0 w0 W gx bx vn vf vl vw nl fs ls ws oF oL) (hb : Below W.heap.size W W') : NetH b0 w0 W' gx bx vn vf vl vw nl fs ls ws oF oL where
  bel := below_then h.bel h.size hb
  size := Nat.le_trans h.size hb.size
  gxb := h.gxb
  box := blk_below h.box hb
  maps := h.maps.below hb
  wsb := h.wsb
  rW := Kd.R_below h.rW hb
  rN := Kd.R_below h.rN hb
  rF := Kd.R_below h.rF hb
  rL := Kd.R_below h.rL hb
  dFL := h.dFL
theorem NetH.far (h : NetH b0 w0 W gx bx vn vf vl vw nl fs ls ws oF oL) {g : Nat} {c : Array Value} (hg : W.heap[g]? = some (.cells c 44 (0, 0))) (hgb : b0 ≤ g) (j : Nat) (u : Value) : NetH b0 w0 (W.setCell ⟨g, j, none⟩ u) gx bx vn vf vl vw nl fs ls ws oF oL where
  bel := h.bel.setCell hgb u
  size := by simpa [World.setCell] using h.size
  gxb := h.gxb
  box := blk_far h.box (p := ⟨g, j, none⟩) (blk_ne h.box hg (by decide)) u
  maps := fun b hb => (h.maps b hb).keep (Below.heap_setCell W ⟨g, j, none⟩ u b (fun e => (h.maps b hb).not_cells hg e.symm))
  wsb := h.wsb
  rW := Kd.R_set h.rW hg (by decide) j u
  rN := Kd.R_set h.rN hg (by decide) j u
  rF := Kd.R_set h.rF hg (by decide) j u
  rL := Kd.R_set h.rL hg (by decide) j u
  dFL := h.dFL
theorem NetH.led (h : NetH b0 w0 W gx bx vn vf vl vw nl fs ls ws oF oL) (hb : Below b0 w0 W') (hm : Maps W' ws) (hk : Kept W W' (fun k => k ∈ ws)) : NetH b0 w0 W' gx bx vn vf vl vw nl fs ls ws oF oL where
  bel := hb
  size := Nat.le_trans h.size hk.1
  gxb := h.gxb
  box := block_kept h.box h.maps _ hk
  maps := hm
  wsb := h.wsb
  rW := Kd.R_mono (Kd.R_kept (Kd.R_bound h.rW) hk (fun k hk2 hin => by obtain ⟨_, _, _, q, _, c, hc⟩ := hk2; exact (h.maps k hin).not_cells hc rfl)) (fun _ hk => hk.1)
  rN := Kd.R_mono (Kd.R_kept (Kd.R_bound h.rN) hk (fun k hk2 hin => by obtain ⟨_, _, _, q, _, c, hc⟩ := hk2; exact (h.maps k hin).not_cells hc rfl)) (fun _ hk => hk.1)
  rF := Kd.R_mono (Kd.R_kept (Kd.R_bound h.rF) hk (fun k hk2 hin => by obtain ⟨_, _, _, q, _, c, hc⟩ := hk2; exact (h.maps k hin).not_cells hc rfl)) (fun _ hk => hk.1)
  rL := Kd.R_mono (Kd.R_kept (Kd.R_bound h.rL) hk (fun k hk2 hin => by obtain ⟨_, _, _, q, _, c, hc⟩ := hk2; exact (h.maps k hin).not_cells hc rfl)) (fun _ hk => hk.1)
  dFL := h.dFL
theorem NetH.beside (h : NetH b0 w0 W gx bx vn vf vl vw nl fs ls ws oF oL) {v : Value} {l : List Int} {o : Nat → Prop} (hr : kI.R 2 W b0 o v l) (hF : ∀ k, o k → ¬ oF k) (hL : ∀ k, o k → ¬ oL k) (hg : W.grownBy W' v.ownBlock) :
    NetH b0 w0 W' gx bx vn vf vl vw nl fs ls ws (fun k => oF k ∧ k < W.heap.size) (fun k => oL k ∧ k < W.heap.size) where
  bel := Below.grown h.bel hg h.size (fun k hk => Kd.R_base hr k hk)
  size := Nat.le_trans h.size hg.size
  gxb := h.gxb
  box := blk_grown h.box hg (Kd.R_ne hr h.box (by decide))
  maps := h.maps.grown hg (fun b hb he => by obtain ⟨c, hc⟩ := Kd.R_typed hr b he.symm; exact (h.maps b hb).not_cells hc rfl)
  wsb := h.wsb
  rW := Kd.R_over' h.rW (Kd.R_typed hr) (by decide) hg
  rN := Kd.R_over' h.rN (Kd.R_typed hr) (by decide) hg
  rF := Kd.R_grown (Kd.R_mono (Kd.R_bound h.rF) (fun k hk => ⟨hk.1, hk.2.2.1⟩)) hg (fun k hk he => hF k (hr.1 k he.symm) hk.1)
  rL := Kd.R_grown (Kd.R_mono (Kd.R_bound h.rL) (fun k hk => ⟨hk.1, hk.2.2.1⟩)) hg (fun k hk he => hL k (hr.1 k he.symm) hk.1)
  dFL := fun k h1 h2 => h.dFL k h1.1 h2.1
end
structure NetL (b0 : Nat) (w0 W : World) (gx : Nat) (bx : Array Value) (vn vf vl vw : Value) (nl : List Bool) (fs ls : List (List Int)) (ws : List Nat) (oF oL : Nat → Prop) (gb : Nat) (nd : Array Value) (v7 v8 : Value) (l7 l8 : List Int) (o7 o8 : Nat → Prop) : Prop where
  net : NetH b0 w0 W gx bx vn vf vl vw nl fs ls ws oF oL
  gbx : W.heap[gb]? = some (.cells nd 44 (0, 0))
  r7 : kI.R 2 W b0 o7 v7 l7
  r8 : kI.R 2 W b0 o8 v8 l8
  d78 : ∀ k, o7 k → ¬ o8 k
  d7F : ∀ k, o7 k → ¬ oF k
  d7L : ∀ k, o7 k → ¬ oL k
  d8F : ∀ k, o8 k → ¬ oF k
  d8L : ∀ k, o8 k → ¬ oL k
section
variable {b0 : Nat} {w0 W W' : World} {gx : Nat} {bx : Array Value} {vn vf vl vw : Value} {nl : List Bool} {fs ls : List (List Int)} {ws : List Nat} {oF oL : Nat → Prop} {gb : Nat} {nd : Array Value} {v7 v8 v : Value} {l7 l8 l : List Int} {o7 o8 o : Nat → Prop}
theorem NetL.swap (h : NetL b0 w0 W gx bx vn vf vl vw nl fs ls ws oF oL gb nd v7 v8 l7 l8 o7 o8) : NetL b0 w0 W gx bx vn vf vl vw nl fs ls ws oF oL gb nd v8 v7 l8 l7 o8 o7 :=
  ⟨h.net, h.gbx, h.r8, h.r7, fun k h1 h2 => h.d78 k h2 h1, h.d8F, h.d8L, h.d7F, h.d7L⟩
theorem NetL.below (h : NetL b0 w0 W gx bx vn vf vl vw nl fs ls ws oF oL gb nd v7 v8 l7 l8 o7 o8) (hb : Below W.heap.size W W') : NetL b0 w0 W' gx bx vn vf vl vw nl fs ls ws oF oL gb nd v7 v8 l7 l8 o7 o8 :=
  ⟨h.net.below hb, blk_below h.gbx hb, Kd.R_below h.r7 hb, Kd.R_below h.r8 hb, h.d78, h.d7F, h.d7L, h.d8F, h.d8L⟩
theorem NetL.drew (h : NetL b0 w0 W gx bx vn vf vl vw nl fs ls ws oF oL gb nd v7 v8 l7 l8 o7 o8) : NetL b0 w0 W.drew gx bx vn vf vl vw nl fs ls ws oF oL gb nd v7 v8 l7 l8 o7 o8 := h.below (below_drew (Below.refl _ _))
theorem NetL.led (h : NetL b0 w0 W gx bx vn vf vl vw nl fs ls ws oF oL gb nd v7 v8 l7 l8 o7 o8) (hb : Below b0 w0 W') (hm : Maps W' ws) (hk : Kept W W' (fun k => k ∈ ws)) : NetL b0 w0 W' gx bx vn vf vl vw nl fs ls ws oF oL gb nd v7 v8 l7 l8 o7 o8 :=
  ⟨h.net.led hb hm hk, block_kept h.gbx h.net.maps _ hk,
    Kd.R_mono (Kd.R_kept (Kd.R_bound h.r7) hk (fun k hk2 hin => by obtain ⟨_, _, _, q, _, c, hc⟩ := hk2; exact (h.net.maps k hin).not_cells hc rfl)) (fun _ hk => hk.1),
    Kd.R_mono (Kd.R_kept (Kd.R_bound h.r8) hk (fun k hk2 hin => by obtain ⟨_, _, _, q, _, c, hc⟩ := hk2; exact (h.net.maps k hin).not_cells hc rfl)) (fun _ hk => hk.1),
    h.d78, h.d7F, h.d7L, h.d8F, h.d8L⟩
theorem NetL.app7 (h : NetL b0 w0 W gx bx vn vf vl vw nl fs ls ws oF oL gb nd v7 v8 l7 l8 o7 o8) (hg : W.grownBy W' v7.ownBlock) (h7 : kI.R 2 W' b0 (fun k => o7 k ∨ W.heap.size ≤ k) v l) :
    NetL b0 w0 W' gx bx vn vf vl vw nl fs ls ws (fun k => oF k ∧ k < W.heap.size) (fun k => oL k ∧ k < W.heap.size) gb nd v v8 l l8 (fun k => o7 k ∨ W.heap.size ≤ k) (fun k => o8 k ∧ k < W.heap.size) where
  net := h.net.beside h.r7 h.d7F h.d7L hg
  gbx := blk_grown h.gbx hg (Kd.R_ne h.r7 h.gbx (by decide))
  r7 := h7
  r8 := Kd.R_grown (Kd.R_mono (Kd.R_bound h.r8) (fun k hk => ⟨hk.1, hk.2.2.1⟩)) hg (fun k hk he => h.d78 k (h.r7.1 k he.symm) hk.1)
  d78 := fun k h1 h2 => h1.elim (fun h1 => h.d78 k h1 h2.1) (fun h1 => Nat.lt_irrefl _ (Nat.lt_of_lt_of_le h2.2 h1))
  d7F := fun k h1 h2 => h1.elim (fun h1 => h.d7F k h1 h2.1) (fun h1 => Nat.lt_irrefl _ (Nat.lt_of_lt_of_le h2.2 h1))
  d7L := fun k h1 h2 => h1.elim (fun h1 => h.d7L k h1 h2.1) (fun h1 => Nat.lt_irrefl _ (Nat.lt_of_lt_of_le h2.2 h1))
  d8F := fun k h1 h2 => h.d8F k h1.1 h2.1
  d8L := fun k h1 h2 => h.d8L k h1.1 h2.1
theorem NetL.new7 (h : NetL b0 w0 W gx bx vn vf vl vw nl fs ls ws oF oL gb nd v7 v8 l7 l8 o7 o8) (hb : Below W.heap.size W W') (h7 : kI.R 2 W' W.heap.size (fun _ => True) v l) :
    NetL b0 w0 W' gx bx vn vf vl vw nl fs ls ws (fun k => oF k ∧ k < W.heap.size) (fun k => oL k ∧ k < W.heap.size) gb nd v v8 l l8 (fun k => W.heap.size ≤ k) (fun k => o8 k ∧ k < W.heap.size) where
  net := { h.net.below hb with
    rF := Kd.R_below (Kd.R_mono (Kd.R_bound h.net.rF) (fun k hk => ⟨hk.1, hk.2.2.1⟩)) hb
    rL := Kd.R_below (Kd.R_mono (Kd.R_bound h.net.rL) (fun k hk => ⟨hk.1, hk.2.2.1⟩)) hb
    dFL := fun k h1 h2 => h.net.dFL k h1.1 h2.1 }
  gbx := blk_below h.gbx hb
  r7 := Kd.R_lower (Kd.R_mono (Kd.R_bound h7) (fun k hk => hk.2.1)) h.net.size
  r8 := Kd.R_below (Kd.R_mono (Kd.R_bound h.r8) (fun k hk => ⟨hk.1, hk.2.2.1⟩)) hb
  d78 := fun k h1 h2 => Nat.lt_irrefl _ (Nat.lt_of_lt_of_le h2.2 h1)
  d7F := fun k h1 h2 => Nat.lt_irrefl _ (Nat.lt_of_lt_of_le h2.2 h1)
  d7L := fun k h1 h2 => Nat.lt_irrefl _ (Nat.lt_of_lt_of_le h2.2 h1)
  d8F := fun k h1 h2 => h.d8F k h1.1 h2.1
  d8L := fun k h1 h2 => h.d8L k h1.1 h2.1
theorem NetL.nil8 (h : NetL b0 w0 W gx bx vn vf vl vw nl fs ls ws oF oL gb nd v7 v8 l7 l8 o7 o8) : NetL b0 w0 W gx bx vn vf vl vw nl fs ls ws oF oL gb nd v7 (.slice none 0 0) l7 [] o7 (fun _ => False) :=
  ⟨h.net, h.gbx, h.r7, Kd.R_nil _ _ _ _ _, fun _ _ h => h, h.d7F, h.d7L, fun _ h => h.elim, fun _ h => h.elim⟩
theorem NetH.locals (h : NetH b0 w0 W gx bx vn vf vl vw nl fs ls ws oF oL) (hgb : W.heap[gb]? = some (.cells nd 44 (0, 0))) : NetL b0 w0 W gx bx vn vf vl vw nl fs ls ws oF oL gb nd (.slice none 0 0) (.slice none 0 0) [] [] (fun _ => False) (fun _ => False) :=
  ⟨h, hgb, Kd.R_nil _ _ _ _ _, Kd.R_nil _ _ _ _ _, fun _ h => h.elim, fun _ h => h.elim, fun _ h => h.elim, fun _ h => h.elim, fun _ h => h.elim⟩
theorem NetH.put (h : NetH b0 w0 W gx bx vn vf vl vw nl fs ls ws oF oL) (j : Nat) (u : Value) : NetH b0 w0 (W.setCell ⟨gx, j, none⟩ u) gx (bx.setIfInBounds j u) vn vf vl vw nl fs ls ws oF oL where
  bel := h.bel.setCell h.gxb u
  size := by simpa [World.setCell] using h.size
  gxb := h.gxb
  box := blk_set h.box j u
  maps := fun b hb => (h.maps b hb).keep (Below.heap_setCell W ⟨gx, j, none⟩ u b (fun e => (h.maps b hb).not_cells h.box e.symm))
  wsb := h.wsb
  rW := Kd.R_set h.rW h.box (by decide) j u
  rN := Kd.R_set h.rN h.box (by decide) j u
  rF := Kd.R_set h.rF h.box (by decide) j u
  rL := Kd.R_set h.rL h.box (by decide) j u
  dFL := h.dFL
theorem NetL.put (h : NetL b0 w0 W gx bx vn vf vl vw nl fs ls ws oF oL gb nd v7 v8 l7 l8 o7 o8) (j : Nat) (u : Value) : NetL b0 w0 (W.setCell ⟨gx, j, none⟩ u) gx (bx.setIfInBounds j u) vn vf vl vw nl fs ls ws oF oL gb nd v7 v8 l7 l8 o7 o8 :=
  ⟨h.net.put j u, blk_far h.gbx (p := ⟨gx, j, none⟩) (blk_ne h.gbx h.net.box (by decide)) u, Kd.R_set h.r7 h.net.box (by decide) j u, Kd.R_set h.r8 h.net.box (by decide) j u, h.d78, h.d7F, h.d7L, h.d8F, h.d8L⟩
theorem NetL.appW (h : NetL b0 w0 W gx bx vn vf vl vw nl fs ls ws oF oL gb nd v7 v8 l7 l8 o7 o8) {b : Nat} (hm : IntMap W b) (hb0 : b0 ≤ b) (hg : W.grownBy W' vw.ownBlock) (hr : kMap.R 78 W' b0 (fun _ => True) v (ws ++ [b])) :
    NetL b0 w0 W' gx bx vn vf vl v nl fs ls (ws ++ [b]) oF oL gb nd v7 v8 l7 l8 o7 o8 where
  net := {
    bel := Below.grown h.net.bel hg h.net.size (fun k hk => Kd.R_base h.net.rW k hk)
    size := Nat.le_trans h.net.size hg.size
    gxb := h.net.gxb
    box := blk_grown h.net.box hg (Kd.R_ne h.net.rW h.net.box (by decide))
    maps := fun c hc => by
      have hn : ∀ c, IntMap W c → some c ≠ vw.ownBlock := fun c hc he => by obtain ⟨cl, hcl⟩ := Kd.R_typed h.net.rW c he.symm; exact hc.not_cells hcl rfl
      rcases List.mem_append.1 hc with hc | hc
      · exact (h.net.maps c hc).keep (hg.block c (h.net.maps c hc).lt (hn c (h.net.maps c hc)))
      · rw [List.mem_singleton.1 hc]; exact hm.keep (hg.block b hm.lt (hn b hm))
    wsb := fun c hc => by
      rcases List.mem_append.1 hc with hc | hc
      · exact h.net.wsb c hc
      · rw [List.mem_singleton.1 hc]; exact hb0
    rW := hr
    rN := Kd.R_over' h.net.rN (Kd.R_typed h.net.rW) (by decide) hg
    rF := Kd.R_over' h.net.rF (Kd.R_typed h.net.rW) (by decide) hg
    rL := Kd.R_over' h.net.rL (Kd.R_typed h.net.rW) (by decide) hg
    dFL := h.net.dFL }
  gbx := blk_grown h.gbx hg (Kd.R_ne h.net.rW h.gbx (by decide))
  r7 := Kd.R_over' h.r7 (Kd.R_typed h.net.rW) (by decide) hg
  r8 := Kd.R_over' h.r8 (Kd.R_typed h.net.rW) (by decide) hg
  d78 := h.d78
  d7F := h.d7F
  d7L := h.d7L
  d8F := h.d8F
  d8L := h.d8L
theorem NetL.appN (h : NetL b0 w0 W gx bx vn vf vl vw nl fs ls ws oF oL gb nd v7 v8 l7 l8 o7 o8) {nl' : List Bool} (hg : W.grownBy W' vn.ownBlock) (hr : Kd.bool.R 4 W' b0 (fun _ => True) v nl') :
    NetL b0 w0 W' gx bx v vf vl vw nl' fs ls ws oF oL gb nd v7 v8 l7 l8 o7 o8 where
  net := {
    bel := Below.grown h.net.bel hg h.net.size (fun k hk => Kd.R_base h.net.rN k hk)
    size := Nat.le_trans h.net.size hg.size
    gxb := h.net.gxb
    box := blk_grown h.net.box hg (Kd.R_ne h.net.rN h.net.box (by decide))
    maps := h.net.maps.grown hg (fun b hb he => by obtain ⟨c, hc⟩ := Kd.R_typed h.net.rN b he.symm; exact (h.net.maps b hb).not_cells hc rfl)
    wsb := h.net.wsb
    rW := Kd.R_over' h.net.rW (Kd.R_typed h.net.rN) (by decide) hg
    rN := hr
    rF := Kd.R_over' h.net.rF (Kd.R_typed h.net.rN) (by decide) hg
    rL := Kd.R_over' h.net.rL (Kd.R_typed h.net.rN) (by decide) hg
    dFL := h.net.dFL }
  gbx := blk_grown h.gbx hg (Kd.R_ne h.net.rN h.gbx (by decide))
  r7 := Kd.R_over' h.r7 (Kd.R_typed h.net.rN) (by decide) hg
  r8 := Kd.R_over' h.r8 (Kd.R_typed h.net.rN) (by decide) hg
  d78 := h.d78
  d7F := h.d7F
  d7L := h.d7L
  d8F := h.d8F
  d8L := h.d8L
theorem NetL.pushF (h : NetL b0 w0 W gx bx vn vf vl vw nl fs ls ws oF oL gb nd v7 v8 l7 l8 o7 o8) {fs' : List (List Int)} (hg : W.grownBy W' vf.ownBlock) (hr : kII.R 41 W' b0 (fun k => (oF k ∨ o7 k) ∨ W.heap.size ≤ k) v fs') :
    NetL b0 w0 W' gx bx vn v vl vw nl fs' ls ws (fun k => (oF k ∨ o7 k) ∨ W.heap.size ≤ k) (fun k => oL k ∧ k < W.heap.size) gb nd (.slice none 0 0) v8 [] l8 (fun _ => False) (fun k => o8 k ∧ k < W.heap.size) where
  net := {
    bel := Below.grown h.net.bel hg h.net.size (fun k hk => Kd.R_base h.net.rF k hk)
    size := Nat.le_trans h.net.size hg.size
    gxb := h.net.gxb
    box := blk_grown h.net.box hg (Kd.R_ne h.net.rF h.net.box (by decide))
    maps := h.net.maps.grown hg (fun b hb he => by obtain ⟨c, hc⟩ := Kd.R_typed h.net.rF b he.symm; exact (h.net.maps b hb).not_cells hc rfl)
    wsb := h.net.wsb
    rW := Kd.R_over' h.net.rW (Kd.R_typed h.net.rF) (by decide) hg
    rN := Kd.R_over' h.net.rN (Kd.R_typed h.net.rF) (by decide) hg
    rF := hr
    rL := Kd.R_grown (Kd.R_mono (Kd.R_bound h.net.rL) (fun k hk => ⟨hk.1, hk.2.2.1⟩)) hg (fun k hk he => h.net.dFL k (h.net.rF.1 k he.symm) hk.1)
    dFL := fun k h1 h2 => h1.elim (fun h1 => h1.elim (fun h1 => h.net.dFL k h1 h2.1) (fun h1 => h.d7L k h1 h2.1)) (fun h1 => Nat.lt_irrefl _ (Nat.lt_of_lt_of_le h2.2 h1)) }
  gbx := blk_grown h.gbx hg (Kd.R_ne h.net.rF h.gbx (by decide))
  r7 := Kd.R_nil _ _ _ _ _
  r8 := Kd.R_over' (Kd.R_mono (Kd.R_bound h.r8) (fun k hk => ⟨hk.1, hk.2.2.1⟩)) (Kd.R_typed h.net.rF) (by decide) hg
  d78 := fun _ h => h.elim
  d7F := fun _ h => h.elim
  d7L := fun _ h => h.elim
  d8F := fun k h2 h1 => h1.elim (fun h1 => h1.elim (fun h1 => h.d8F k h2.1 h1) (fun h1 => h.d78 k h1 h2.1)) (fun h1 => Nat.lt_irrefl _ (Nat.lt_of_lt_of_le h2.2 h1))
  d8L := fun k h1 h2 => h.d8L k h1.1 h2.1
theorem NetL.pushL (h : NetL b0 w0 W gx bx vn vf vl vw nl fs ls ws oF oL gb nd v7 v8 l7 l8 o7 o8) {ls' : List (List Int)} (hg : W.grownBy W' vl.ownBlock) (hr : kII.R 41 W' b0 (fun k => (oL k ∨ o8 k) ∨ W.heap.size ≤ k) v ls') :
    NetH b0 w0 W' gx bx vn vf v vw nl fs ls' ws (fun k => oF k ∧ k < W.heap.size) (fun k => (oL k ∨ o8 k) ∨ W.heap.size ≤ k) where
  bel := Below.grown h.net.bel hg h.net.size (fun k hk => Kd.R_base h.net.rL k hk)
  size := Nat.le_trans h.net.size hg.size
  gxb := h.net.gxb
  box := blk_grown h.net.box hg (Kd.R_ne h.net.rL h.net.box (by decide))
  maps := h.net.maps.grown hg (fun b hb he => by obtain ⟨c, hc⟩ := Kd.R_typed h.net.rL b he.symm; exact (h.net.maps b hb).not_cells hc rfl)
  wsb := h.net.wsb
  rW := Kd.R_over' h.net.rW (Kd.R_typed h.net.rL) (by decide) hg
  rN := Kd.R_over' h.net.rN (Kd.R_typed h.net.rL) (by decide) hg
  rF := Kd.R_grown (Kd.R_mono (Kd.R_bound h.net.rF) (fun k hk => ⟨hk.1, hk.2.2.1⟩)) hg (fun k hk he => h.net.dFL k hk.1 (h.net.rL.1 k he.symm))
  rL := hr
  dFL := fun k h2 h1 => h1.elim (fun h1 => h1.elim (fun h1 => h.net.dFL k h2.1 h1) (fun h1 => h.d8F k h1 h2.1)) (fun h1 => Nat.lt_irrefl _ (Nat.lt_of_lt_of_le h2.2 h1))
theorem at_rows {w : World} {A : Option Addr} {n : Nat} {xs : List (List Int)} (h : kII.C w A n xs) (i : Int) (h0 : 0 ≤ i) (h1 : i < n) : ∃ ad A1 c1, A = some ad ∧ w.cell? (ad.add i.toNat) = some (.slice A1 (rdOf [] xs i).length c1) ∧ (rdOf [] xs i).length ≤ c1 ∧ kI.C w A1 (rdOf [] xs i).length (rdOf [] xs i) := by
  obtain ⟨ad, c, e, _, ⟨A1, c1, rfl, hl, hC⟩, hc⟩ := Kd.C_get h [] i h0 h1
  refine ⟨ad, A1, c1, e, ?_, hl, hC⟩
  have h2 : w.cell? (ad.add (i.toNat * 1 + 0)) = some (.slice A1 (rdOf [] xs i).length c1) := hc 0 _ rfl
  rw [Nat.mul_one, Nat.add_zero] at h2
  exact h2
end
end Go.Proofs.YtaliphegdclkfaaW.IntMaps
