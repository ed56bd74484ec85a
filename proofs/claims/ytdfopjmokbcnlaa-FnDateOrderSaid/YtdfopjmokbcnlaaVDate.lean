/- The first statement of the reference's drawn date, whose parts may come up in any order: what holds in every order of them. -/
import Derived.Test.YtdfopjmokbcnlaaPVx0
import Derived.Test.YtdfopjmokbcnlaaPVx3
namespace Go.Proofs.Ytdfopjmokbcnlaa.VD
open Go Go.RowKit Go.Proofs.YtdfopjmokbcnlaaW.PrintWords Go.Proofs.YtdfopjmokbcnlaaW.PrintLast Go.Proofs.YtdfopjmokbcnlaaW.PrintMore Go.Proofs.YtdfopjmokbcnlaaW.WordsB Go.Proofs.Ytdfopjmokbcnlaa.PV
set_option linter.unusedVariables false
set_option linter.unusedSimpArgs false
section
variable {P : Program} {ops : Array Oper} {Q : Exit → Act → World → Prop}
def unl (l : Array Bool) (L : List Nat) : Nat := L.countP fun j => !l.getD j true
theorem unl_le (l : Array Bool) (i : Nat) : ∀ L : List Nat, unl (l.setIfInBounds i true) L ≤ unl l L
  | [] => Nat.le_refl _
  | j :: L => by
    have ih := unl_le l i L
    unfold unl at *
    rw [List.countP_cons, List.countP_cons]
    by_cases h : i = j
    · subst h
      have : (l.setIfInBounds i true).getD i true = true := by
        by_cases hb : i < l.size
        · simp [Array.getD, hb]
        · simp [Array.getD, hb]
      simp only [this, Bool.not_true, Bool.false_eq_true, if_false]
      omega
    · rw [getD_set_ne true h]
      omega
theorem unl_lt (l : Array Bool) (i : Nat) (hi : l.getD i true = false) : ∀ L : List Nat, i ∈ L → unl (l.setIfInBounds i true) L < unl l L
  | [], h => by cases h
  | j :: L, h => by
    have hle := unl_le l i L
    unfold unl at *
    rw [List.countP_cons, List.countP_cons]
    by_cases e : i = j
    · subst e
      have : (l.setIfInBounds i true).getD i true = true := by
        by_cases hb : i < l.size
        · simp [Array.getD, hb]
        · simp [Array.getD, hb]
      simp only [this, hi, Bool.not_true, Bool.not_false, Bool.false_eq_true, if_false, if_true]
      omega
    · have ih := unl_lt l i hi L ((List.mem_cons.1 h).resolve_left e)
      unfold unl at ih
      rw [getD_set_ne true e]
      omega
theorem getD_both {l : Array Bool} {i : Nat} (hi : i < l.size) : l.getD i true = l.getD i false := by
  unfold Array.getD
  rw [dif_pos hi, dif_pos hi]
/-- What holds in every order: the operations up to the last one, which waits for all. -/
theorem any_order (I : Array Bool → Act → World → Prop) (n : Nat) (hsz : ops.size = n + 1)
    (hlt : ∀ (i : Nat) (o : Oper), ops[i]? = some o → ∀ e ∈ o.after, e.on < i)
    (hI : ∀ l a w, I l a w → l.size = n + 1 ∧ l.getD n true = false)
    (hlast : ∀ l : Array Bool, n ∈ Region.ready .any ops l → ∀ i, i < n → l.getD i false = true)
    (hstep : ∀ l a w i, I l a w → i < n → i ∈ Region.ready .any ops l → ∀ K : Act → World → Prop, (∀ a' w', I (l.setIfInBounds i true) a' w' → K a' w') → wpOp P ops Q i K a w)
    (hfin : ∀ m l a w, I l a w → (∀ i, i < n → l.getD i false = true) → wpAnyLast P .any ops Q (fun _ => True) [] (m + 1) l a w) :
    ∀ fuel l a w, I l a w → unl l (List.range (n + 1)) ≤ fuel → wpAnyLast P .any ops Q (fun _ => True) [] fuel l a w := by
  intro fuel
  induction fuel with
  | zero =>
    intro l a w h hf
    have := unl_lt l n (hI l a w h).2 (List.range (n + 1)) (by simp)
    omega
  | succ m ih =>
    intro l a w h hf
    obtain ⟨hs, hn⟩ := hI l a w h
    by_cases hall : ∀ i, i < n → l.getD i false = true
    · exact hfin m l a w h hall
    · have hex : ∃ i, i < n ∧ l.getD i false ≠ true ∧ ∀ j, j < i → l.getD j false = true := by
        apply Classical.byContradiction
        intro hno
        apply hall
        have : ∀ k, ∀ i, i < k → i < n → l.getD i false = true := by
          intro k
          induction k with
          | zero => intro i hi; omega
          | succ k ihk =>
            intro i hi hin
            apply Classical.byContradiction
            intro hc
            exact hno ⟨i, hin, hc, fun j hj => ihk j (by omega) (by omega)⟩
        exact fun i hi => this (i + 1) i (by omega) hi
      obtain ⟨i, hin, hc, hb⟩ := hex
      have hmem : i ∈ Region.ready .any ops l := by
        refine mem_ready.2 ⟨?_, ops[i]'(by omega), by simp, fun e he _ => hb _ (hlt i _ (by simp) e he)⟩
        rw [getD_both (by omega)]
        simpa using hc
      refine wpAnyLast_all rfl (fun hnil => by rw [hnil] at hmem; cases hmem) fun j hj => ?_
      have hjs : j < n + 1 := by
        obtain ⟨_, oj, hoj, _⟩ := mem_ready.1 hj
        have := (Array.getElem?_eq_some_iff.1 hoj).1
        omega
      have hjn : j ≠ n := fun e => by subst e; exact hall (hlast l hj)
      refine hstep l a w j h (by omega) hj _ fun a' w' h' => ⟨fun _ h => h, ih _ a' w' h' ?_⟩
      have := unl_lt l j (mem_ready.1 hj).1 (List.range (n + 1)) (List.mem_range.2 hjs)
      omega
end
structure Tm where
  (t3 t4 t6 t7 t8 t10 t11 t12 t14 t15 t16 t17 t19 t20 t21 t23 t24 : Value)
structure Gh where
  (p : Int) (v4 v12 v17 : Value) (y4 y12 y17 : List Int) (gb : Nat)
def actX (g gb : Nat) (x : Tm) : Act := { tmps := #[.pointer (some ⟨g, 0, none⟩), undef, .pointer (some ⟨gb, 0, none⟩), x.t3, x.t4, .pointer (some ⟨g, 0, none⟩), x.t6, x.t7, x.t8, .pointer (some ⟨g, 0, none⟩), x.t10, x.t11, x.t12, .pointer (some ⟨g, 0, none⟩), x.t14, x.t15, x.t16, x.t17, .pointer (some ⟨g, 0, none⟩), x.t19, x.t20, x.t21, .pointer (some ⟨g, 0, none⟩), x.t23, x.t24, undef, undef, undef, undef, undef, undef, undef, undef, undef, undef, undef, undef, undef, undef, undef, undef, undef, undef, undef, undef, undef, undef, undef, undef, undef, undef, undef, undef, undef, undef, undef, undef, undef, undef, undef, undef, undef, undef], defers := [] }
def pOf (p0 p1 p2 p3 p4 p5 : Int) (b2 b6 b10 b15 b19 : Bool) : Int := if b19 = true then p5 else if b15 = true then p4 else if b10 = true then p3 else if b6 = true then p2 else if b2 = true then p1 else p0
/-- The world's side: three rows, two boxes, the reader. -/
structure WF (w0 w : World) (g gb0 : Nat) (s : List Int) (G : Gh) (W : World) : Prop where
  h4 : (Kd.int .i64).R 2 W w.heap.size (fun k => some k ≠ G.v12.ownBlock ∧ some k ≠ G.v17.ownBlock) G.v4 G.y4
  h12 : (Kd.int .i64).R 2 W w.heap.size (fun k => some k ≠ G.v4.ownBlock ∧ some k ≠ G.v17.ownBlock) G.v12 G.y12
  h17 : (Kd.int .i64).R 2 W w.heap.size (fun k => some k ≠ G.v4.ownBlock ∧ some k ≠ G.v12.ownBlock) G.v17 G.y17
  bk : W.heap[gb0]? = some (.cells #[.int .i64 0, .int .i64 0, .int .i64 0, .int .i64 0, .int .i64 0, .int .i64 0, .bool false, .int .i64 0] 29 (0, 0))
  bk2 : W.heap[G.gb]? = some (.cells #[.int .i64 0, .int .i64 0, .int .i64 0, .int .i64 0, .int .i64 0, .int .i64 0, .bool false, .int .i64 0] 29 (0, 0))
  ne0 : gb0 ≠ g
  ne : G.gb ≠ g
  hi : IsS58 w0 W g s G.p
  hk : KeepBut w W g none
  hb : Below w0.heap.size w0 W
  hw : w0.heap.size ≤ w.heap.size
section
variable {w0 w : World} {g gb0 : Nat} {s : List Int} {G : Gh} {W W1 : World}
theorem WF.call (h : WF w0 w g gb0 s G W) {p' : Int} (hi : IsS58 w0 W1 g s p') (hb : Below w0.heap.size w0 W1) (hk : KeepBut W W1 g none) : WF w0 w g gb0 s { G with p := p' } W1 where
  h4 := Kd.R_mono (Kd.R_keep (h.hi.apart h.h4 (by decide)) hk (fun _ h => h.2)) (fun _ h => h.1)
  h12 := Kd.R_mono (Kd.R_keep (h.hi.apart h.h12 (by decide)) hk (fun _ h => h.2)) (fun _ h => h.1)
  h17 := Kd.R_mono (Kd.R_keep (h.hi.apart h.h17 (by decide)) hk (fun _ h => h.2)) (fun _ h => h.1)
  bk := hk.blk h.bk h.ne0 (by simp)
  bk2 := hk.blk h.bk2 h.ne (by simp)
  ne0 := h.ne0
  ne := h.ne
  hi := hi
  hk := h.hk.trans hk (.inl rfl)
  hb := hb
  hw := h.hw
theorem WF.box (h : WF w0 w g gb0 s G W) {q : Nat} (hq : q = W.heap.size) (hbox : W1.heap[q]? = some (.cells #[.int .i64 0, .int .i64 0, .int .i64 0, .int .i64 0, .int .i64 0, .int .i64 0, .bool false, .int .i64 0] 29 (0, 0))) (hb : Below W.heap.size W W1) : WF w0 w g gb0 s { G with gb := q } W1 where
  h4 := Kd.R_below h.h4 hb
  h12 := Kd.R_below h.h12 hb
  h17 := Kd.R_below h.h17 hb
  bk := blk_below h.bk hb
  bk2 := hbox
  ne0 := h.ne0
  ne := by have := h.hi.lt; show q ≠ g; omega
  hi := h.hi.below hb
  hk := h.hk.trans (KeepBut.of_below hb g none) (.inl rfl)
  hb := below_step h.hb hb
  hw := h.hw
theorem WF.lit4 (h : WF w0 w g gb0 s G W) {v : Value} {y : List Int} (ho : (Kd.int .i64).R 2 W1 W.heap.size (fun _ => True) v y) (hb : Below W.heap.size W W1) : WF w0 w g gb0 s { G with v4 := v, y4 := y } W1 where
  h4 := Kd.R_mono (Kd.R_lower (Kd.R_new' (Kd.R_new' ho (Kd.R_lt h.h12)) (Kd.R_lt h.h17)) (keep_size h.hk)) (fun _ hk_ => ⟨hk_.1.2, hk_.2⟩)
  h12 := Kd.R_mono (Kd.R_elder' h.h12 (Kd.R_base ho) hb) (fun _ hk_ => ⟨hk_.2, hk_.1.2⟩)
  h17 := Kd.R_mono (Kd.R_elder' h.h17 (Kd.R_base ho) hb) (fun _ hk_ => ⟨hk_.2, hk_.1.2⟩)
  bk := blk_below h.bk hb
  bk2 := blk_below h.bk2 hb
  ne0 := h.ne0
  ne := h.ne
  hi := h.hi.below hb
  hk := h.hk.trans (KeepBut.of_below hb g none) (.inl rfl)
  hb := below_step h.hb hb
  hw := h.hw
theorem WF.lit12 (h : WF w0 w g gb0 s G W) {v : Value} {y : List Int} (ho : (Kd.int .i64).R 2 W1 W.heap.size (fun _ => True) v y) (hb : Below W.heap.size W W1) : WF w0 w g gb0 s { G with v12 := v, y12 := y } W1 where
  h12 := Kd.R_mono (Kd.R_lower (Kd.R_new' (Kd.R_new' ho (Kd.R_lt h.h4)) (Kd.R_lt h.h17)) (keep_size h.hk)) (fun _ hk_ => ⟨hk_.1.2, hk_.2⟩)
  h4 := Kd.R_mono (Kd.R_elder' h.h4 (Kd.R_base ho) hb) (fun _ hk_ => ⟨hk_.2, hk_.1.2⟩)
  h17 := Kd.R_mono (Kd.R_elder' h.h17 (Kd.R_base ho) hb) (fun _ hk_ => ⟨hk_.1.1, hk_.2⟩)
  bk := blk_below h.bk hb
  bk2 := blk_below h.bk2 hb
  ne0 := h.ne0
  ne := h.ne
  hi := h.hi.below hb
  hk := h.hk.trans (KeepBut.of_below hb g none) (.inl rfl)
  hb := below_step h.hb hb
  hw := h.hw
theorem WF.lit17 (h : WF w0 w g gb0 s G W) {v : Value} {y : List Int} (ho : (Kd.int .i64).R 2 W1 W.heap.size (fun _ => True) v y) (hb : Below W.heap.size W W1) : WF w0 w g gb0 s { G with v17 := v, y17 := y } W1 where
  h17 := Kd.R_mono (Kd.R_lower (Kd.R_new' (Kd.R_new' ho (Kd.R_lt h.h4)) (Kd.R_lt h.h12)) (keep_size h.hk)) (fun _ hk_ => ⟨hk_.1.2, hk_.2⟩)
  h4 := Kd.R_mono (Kd.R_elder' h.h4 (Kd.R_base ho) hb) (fun _ hk_ => ⟨hk_.1.1, hk_.2⟩)
  h12 := Kd.R_mono (Kd.R_elder' h.h12 (Kd.R_base ho) hb) (fun _ hk_ => ⟨hk_.1.1, hk_.2⟩)
  bk := blk_below h.bk hb
  bk2 := blk_below h.bk2 hb
  ne0 := h.ne0
  ne := h.ne
  hi := h.hi.below hb
  hk := h.hk.trans (KeepBut.of_below hb g none) (.inl rfl)
  hb := below_step h.hb hb
  hw := h.hw
end
section
variable (w0 w : World) (g gb0 : Nat) (s : List Int) (y159 y167 y173 : List Int) (t162 t165 t170 t176 t179 p0 p1 p2 p3 p4 p5 : Int)
structure DI (l : Array Bool) (x : Tm) (G : Gh) (W : World) : Prop where
  sz : l.size = 23
  last : l.getD 22 true = false
  m1 : l.getD 1 false = true
  m5 : l.getD 5 false = true
  m9 : l.getD 9 false = true
  m14 : l.getD 14 false = true
  m18 : l.getD 18 false = true
  wf : WF w0 w g gb0 s G W
  pp : G.p = pOf p0 p1 p2 p3 p4 p5 (l.getD 2 false) (l.getD 6 false) (l.getD 10 false) (l.getD 15 false) (l.getD 19 false)
  cl3 : l.getD 3 false = true → l.getD 0 false = true
  cl11 : l.getD 11 false = true → l.getD 8 false = true
  cl16 : l.getD 16 false = true → l.getD 13 false = true
  cl6 : l.getD 6 false = true → l.getD 2 false = true
  cl10 : l.getD 10 false = true → l.getD 6 false = true
  cl15 : l.getD 15 false = true → l.getD 10 false = true
  cl19 : l.getD 19 false = true → l.getD 15 false = true
  c0 : l.getD 0 false = true → x.t4 = G.v4 ∧ G.y4 = y159
  c2 : l.getD 2 false = true → x.t6 = .int .i64 t162
  c3 : l.getD 3 false = true → ∃ ad c, G.v4 = .slice (some ad) y159.length c ∧ x.t7 = .pointer (some (ad.add t162.toNat))
  c4 : l.getD 4 false = true → x.t8 = .int .i64 (rd y159 t162)
  c6 : l.getD 6 false = true → x.t10 = .int .i64 t165
  c7 : l.getD 7 false = true → x.t11 = .int .i64 (wrap64 (1 + t165))
  c8 : l.getD 8 false = true → x.t12 = G.v12 ∧ G.y12 = y167
  c10 : l.getD 10 false = true → x.t14 = .int .i64 t170
  c11 : l.getD 11 false = true → ∃ ad c, G.v12 = .slice (some ad) y167.length c ∧ x.t15 = .pointer (some (ad.add t170.toNat))
  c12 : l.getD 12 false = true → x.t16 = .int .i64 (rd y167 t170)
  c13 : l.getD 13 false = true → x.t17 = G.v17 ∧ G.y17 = y173
  c15 : l.getD 15 false = true → x.t19 = .int .i64 t176
  c16 : l.getD 16 false = true → ∃ ad c, G.v17 = .slice (some ad) y173.length c ∧ x.t20 = .pointer (some (ad.add t176.toNat))
  c17 : l.getD 17 false = true → x.t21 = .int .i64 (rd y173 t176)
  c19 : l.getD 19 false = true → x.t23 = .int .i64 t179
  c20 : l.getD 20 false = true → x.t24 = .agg #[.int .i64 (rd y159 t162), .int .i64 (wrap64 (1 + t165)), .int .i64 0, .int .i64 (rd y167 t170), .int .i64 (rd y173 t176), .int .i64 t179, .bool false, .int .i64 0]
  c21 : l.getD 21 false = true → x.t3 = .pointer (some ⟨G.gb, 0, none⟩) ∧ w.heap.size ≤ G.gb ∧ gb0 ≠ G.gb
def Inv (l : Array Bool) (a : Act) (W : World) : Prop := ∃ x G, a = actX g gb0 x ∧ DI w0 w g gb0 s y159 y167 y173 t162 t165 t170 t176 t179 p0 p1 p2 p3 p4 p5 l x G W
end
theorem keepT {l : Array Bool} {i j : Nat} (h : i ≠ j) (hj : (l.setIfInBounds i true).getD j false = true) : l.getD j false = true := by rw [getD_set_ne false h] at hj; exact hj
theorem setT {l : Array Bool} {i j : Nat} (hj : l.getD j false = true) : (l.setIfInBounds i true).getD j false = true := getD_set_true hj
section
variable {P : Program} {Q : Exit → Act → World → Prop} {ops : Array Oper}
theorem st0 {w0 w : World} {g gb0 : Nat} {s : List Int} {y159 y167 y173 : List Int} {t162 t165 t170 t176 t179 p0 p1 p2 p3 p4 p5 : Int} {l : Array Bool} {x : Tm} {G : Gh} {W : World} (hI : DI w0 w g gb0 s y159 y167 y173 t162 t165 t170 t176 t179 p0 p1 p2 p3 p4 p5 l x G W) (hun : l.getD 0 true = false) (hy : y159 = [1, 1999, 2000, 2024, 1900, 9999, 2023])
    : ∀ K : Act → World → Prop, (∀ a' w', Inv w0 w g gb0 s y159 y167 y173 t162 t165 t170 t176 t179 p0 p1 p2 p3 p4 p5 (l.setIfInBounds 0 true) a' w' → K a' w') →
    if Region.wanted ({ dst := some 4, op := Op.buildSlice 55 7 #[(0, Operand.const (Value.int IntKind.i64 1)), (1, Operand.const (Value.int IntKind.i64 1999)), (2, Operand.const (Value.int IntKind.i64 2000)), (3, Operand.const (Value.int IntKind.i64 2024)), (4, Operand.const (Value.int IntKind.i64 1900)), (5, Operand.const (Value.int IntKind.i64 9999)), (6, Operand.const (Value.int IntKind.i64 2023))], type := 55, pos := "l05_dates.go:166", after := #[], guard := none } : Oper) (yielded ops (actX g gb0 x).tmps) = true then Oper.wp Try.prog ({ dst := some 4, op := Op.buildSlice 55 7 #[(0, Operand.const (Value.int IntKind.i64 1)), (1, Operand.const (Value.int IntKind.i64 1999)), (2, Operand.const (Value.int IntKind.i64 2000)), (3, Operand.const (Value.int IntKind.i64 2024)), (4, Operand.const (Value.int IntKind.i64 1900)), (5, Operand.const (Value.int IntKind.i64 9999)), (6, Operand.const (Value.int IntKind.i64 2023))], type := 55, pos := "l05_dates.go:166", after := #[], guard := none } : Oper) (actX g gb0 x) W K Q else K ((actX g gb0 x).put (some 4) undef) W := by
  intro K hK
  have hf : l.getD 0 false = false := by rw [← getD_both (by rw [hI.sz]; decide)]; exact hun
  subst hy
  refine Kd.R_lit_step (Kd.int .i64) _ 2 ?hg (N := 4) ?hd (xs := ([1, 1999, 2000, 2024, 1900, 9999, 2023] : List Int)) (inner := [.int .i64 1, .int .i64 1999, .int .i64 2000, .int .i64 2024, .int .i64 1900, .int .i64 9999, .int .i64 2023]) (ok := fun _ => True) (okp := fun _ => True) ?hr ?hp (fun _ hk => hk) trivial (Below.refl _ _) (Nat.le_refl _) (by simp) ?_
  case hd => rfl
  case hg => rfl
  case hr => unfold actX; first | (go_simp; done) | (go_simp; rfl)
  case hp => exact (Reps.one (show Kd.M (Kd.int .i64) _ _ _ 1 [.int .i64 1] from rfl) (Reps.one (show Kd.M (Kd.int .i64) _ _ _ 1999 [.int .i64 1999] from rfl) (Reps.one (show Kd.M (Kd.int .i64) _ _ _ 2000 [.int .i64 2000] from rfl) (Reps.one (show Kd.M (Kd.int .i64) _ _ _ 2024 [.int .i64 2024] from rfl) (Reps.one (show Kd.M (Kd.int .i64) _ _ _ 1900 [.int .i64 1900] from rfl) (Reps.one (show Kd.M (Kd.int .i64) _ _ _ 9999 [.int .i64 9999] from rfl) (Reps.one (show Kd.M (Kd.int .i64) _ _ _ 2023 [.int .i64 2023] from rfl) (Reps.none _ _))))))))
  intro v1 W1 ho hb hg_ hnew_
  exact hK _ _ ⟨{ x with t4 := v1 }, { G with v4 := v1, y4 := _ }, rfl,
    { sz := by rw [Array.size_setIfInBounds]; exact hI.sz,
      last := by rw [getD_set_ne true (by decide)]; exact hI.last,
      m1 := setT hI.m1,
      m5 := setT hI.m5,
      m9 := setT hI.m9,
      m14 := setT hI.m14,
      m18 := setT hI.m18,
      wf := hI.wf.lit4 ho hb,
      pp := by rw [getD_set_ne false (by decide), getD_set_ne false (by decide), getD_set_ne false (by decide), getD_set_ne false (by decide), getD_set_ne false (by decide)]; exact hI.pp,
      cl3 := fun h => setT (hI.cl3 (keepT (by decide) h)),
      cl11 := fun h => setT (hI.cl11 (keepT (by decide) h)),
      cl16 := fun h => setT (hI.cl16 (keepT (by decide) h)),
      cl6 := fun h => setT (hI.cl6 (keepT (by decide) h)),
      cl10 := fun h => setT (hI.cl10 (keepT (by decide) h)),
      cl15 := fun h => setT (hI.cl15 (keepT (by decide) h)),
      cl19 := fun h => setT (hI.cl19 (keepT (by decide) h)),
      c0 := fun _ => ⟨rfl, rfl⟩,
      c2 := fun h => hI.c2 (keepT (by decide) h),
      c3 := fun h => absurd (hI.cl3 (keepT (by decide) h)) (by rw [hf]; decide),
      c4 := fun h => hI.c4 (keepT (by decide) h),
      c6 := fun h => hI.c6 (keepT (by decide) h),
      c7 := fun h => hI.c7 (keepT (by decide) h),
      c8 := fun h => hI.c8 (keepT (by decide) h),
      c10 := fun h => hI.c10 (keepT (by decide) h),
      c11 := fun h => hI.c11 (keepT (by decide) h),
      c12 := fun h => hI.c12 (keepT (by decide) h),
      c13 := fun h => hI.c13 (keepT (by decide) h),
      c15 := fun h => hI.c15 (keepT (by decide) h),
      c16 := fun h => hI.c16 (keepT (by decide) h),
      c17 := fun h => hI.c17 (keepT (by decide) h),
      c19 := fun h => hI.c19 (keepT (by decide) h),
      c20 := fun h => hI.c20 (keepT (by decide) h),
      c21 := fun h => hI.c21 (keepT (by decide) h) }⟩
theorem st2 {w0 w : World} {g gb0 : Nat} {s : List Int} {y159 y167 y173 : List Int} {t162 t165 t170 t176 t179 p0 p1 p2 p3 p4 p5 : Int} {l : Array Bool} {x : Tm} {G : Gh} {W : World} (hI : DI w0 w g gb0 s y159 y167 y173 t162 t165 t170 t176 t179 p0 p1 p2 p3 p4 p5 l x G W) (hun : l.getD 2 true = false) (hd1 : l.getD 1 false = true) (A162 : spec_l1Rd_below.f s p0 7 = some (t162, p1))
    : ∀ K : Act → World → Prop, (∀ a' w', Inv w0 w g gb0 s y159 y167 y173 t162 t165 t170 t176 t179 p0 p1 p2 p3 p4 p5 (l.setIfInBounds 2 true) a' w' → K a' w') →
    if Region.wanted ({ dst := some 6, op := Op.call { callee := Callee.value (Operand.func 44), args := #[Operand.tmp 5, Operand.const (Value.int IntKind.i64 7)], argTypes := #[50, 3] }, type := 3, pos := "l05_dates.go:166", after := #[{ on := 1, ground := Ground.data }], guard := none } : Oper) (yielded ops (actX g gb0 x).tmps) = true then Oper.wp Try.prog ({ dst := some 6, op := Op.call { callee := Callee.value (Operand.func 44), args := #[Operand.tmp 5, Operand.const (Value.int IntKind.i64 7)], argTypes := #[50, 3] }, type := 3, pos := "l05_dates.go:166", after := #[{ on := 1, ground := Ground.data }], guard := none } : Oper) (actX g gb0 x) W K Q else K ((actX g gb0 x).put (some 6) undef) W := by
  intro K hK
  have hf : l.getD 2 false = false := by rw [← getD_both (by rw [hI.sz]; decide)]; exact hun
  have hp : G.p = p0 := by
    rw [hI.pp]
    have f6 : l.getD 6 false = false := by
      cases e : l.getD 6 false with
      | false => rfl
      | true => have := hI.cl6 e; rw [hf] at this; cases this
    have f10 : l.getD 10 false = false := by
      cases e : l.getD 10 false with
      | false => rfl
      | true => have := hI.cl10 e; rw [f6] at this; cases this
    have f15 : l.getD 15 false = false := by
      cases e : l.getD 15 false with
      | false => rfl
      | true => have := hI.cl15 e; rw [f10] at this; cases this
    have f19 : l.getD 19 false = false := by
      cases e : l.getD 19 false with
      | false => rfl
      | true => have := hI.cl19 e; rw [f15] at this; cases this
    rw [hf, f6, f10, f15, f19]
    simp [pOf]
  refine goes_ Try.func44 (by kernel_rfl) rfl #[.pointer (some ⟨g, 0, none⟩), .int .i64 7] (by rfl) rfl rfl (by simp only [List.map_toArray, List.map_cons, List.map_nil]; rfl) ?_
  have hi0 := hI.wf.hi
  rw [hp] at hi0
  refine (spec_l1Rd_below.calls g s p0 7 t162 p1 w0 _ hi0 hI.wf.hb A162).mono ?_
  rintro e W1 ⟨rfl, hi, hb, hk⟩
  refine ⟨_, rfl, ?_⟩
  exact hK _ _ ⟨{ x with t6 := .int .i64 t162 }, { G with p := p1 }, rfl,
    { sz := by rw [Array.size_setIfInBounds]; exact hI.sz,
      last := by rw [getD_set_ne true (by decide)]; exact hI.last,
      m1 := setT hI.m1,
      m5 := setT hI.m5,
      m9 := setT hI.m9,
      m14 := setT hI.m14,
      m18 := setT hI.m18,
      wf := hI.wf.call hi hb hk,
      pp := by
        have e2 : (l.setIfInBounds 2 true).getD 2 false = true := by simp [Array.getD, hI.sz]
        have f6 : l.getD 6 false = false := by
          cases e : l.getD 6 false with
          | false => rfl
          | true => have := hI.cl6 e; rw [hf] at this; cases this
        have f10 : l.getD 10 false = false := by
          cases e : l.getD 10 false with
          | false => rfl
          | true => have := hI.cl10 e; rw [f6] at this; cases this
        have f15 : l.getD 15 false = false := by
          cases e : l.getD 15 false with
          | false => rfl
          | true => have := hI.cl15 e; rw [f10] at this; cases this
        have f19 : l.getD 19 false = false := by
          cases e : l.getD 19 false with
          | false => rfl
          | true => have := hI.cl19 e; rw [f15] at this; cases this
        have g6 : (l.setIfInBounds 2 true).getD 6 false = false := by rw [getD_set_ne false (by decide)]; exact f6
        have g10 : (l.setIfInBounds 2 true).getD 10 false = false := by rw [getD_set_ne false (by decide)]; exact f10
        have g15 : (l.setIfInBounds 2 true).getD 15 false = false := by rw [getD_set_ne false (by decide)]; exact f15
        have g19 : (l.setIfInBounds 2 true).getD 19 false = false := by rw [getD_set_ne false (by decide)]; exact f19
        show p1 = _
        rw [e2, g6, g10, g15, g19]
        simp [pOf],
      cl3 := fun h => setT (hI.cl3 (keepT (by decide) h)),
      cl11 := fun h => setT (hI.cl11 (keepT (by decide) h)),
      cl16 := fun h => setT (hI.cl16 (keepT (by decide) h)),
      cl6 := fun h => setT (hI.cl6 (keepT (by decide) h)),
      cl10 := fun h => setT (hI.cl10 (keepT (by decide) h)),
      cl15 := fun h => setT (hI.cl15 (keepT (by decide) h)),
      cl19 := fun h => setT (hI.cl19 (keepT (by decide) h)),
      c0 := fun h => hI.c0 (keepT (by decide) h),
      c2 := fun _ => rfl,
      c3 := fun h => hI.c3 (keepT (by decide) h),
      c4 := fun h => hI.c4 (keepT (by decide) h),
      c6 := fun h => hI.c6 (keepT (by decide) h),
      c7 := fun h => hI.c7 (keepT (by decide) h),
      c8 := fun h => hI.c8 (keepT (by decide) h),
      c10 := fun h => hI.c10 (keepT (by decide) h),
      c11 := fun h => hI.c11 (keepT (by decide) h),
      c12 := fun h => hI.c12 (keepT (by decide) h),
      c13 := fun h => hI.c13 (keepT (by decide) h),
      c15 := fun h => hI.c15 (keepT (by decide) h),
      c16 := fun h => hI.c16 (keepT (by decide) h),
      c17 := fun h => hI.c17 (keepT (by decide) h),
      c19 := fun h => hI.c19 (keepT (by decide) h),
      c20 := fun h => hI.c20 (keepT (by decide) h),
      c21 := fun h => hI.c21 (keepT (by decide) h) }⟩
theorem st3 {w0 w : World} {g gb0 : Nat} {s : List Int} {y159 y167 y173 : List Int} {t162 t165 t170 t176 t179 p0 p1 p2 p3 p4 p5 : Int} {l : Array Bool} {x : Tm} {G : Gh} {W : World} (hI : DI w0 w g gb0 s y159 y167 y173 t162 t165 t170 t176 t179 p0 p1 p2 p3 p4 p5 l x G W) (hun : l.getD 3 true = false) (hd0 : l.getD 0 false = true) (hd2 : l.getD 2 false = true) (q0 : 0 ≤ t162) (q1 : t162 < (y159.length : Int))
    : ∀ K : Act → World → Prop, (∀ a' w', Inv w0 w g gb0 s y159 y167 y173 t162 t165 t170 t176 t179 p0 p1 p2 p3 p4 p5 (l.setIfInBounds 3 true) a' w' → K a' w') →
    if Region.wanted ({ dst := some 7, op := Op.indexAddr 55 (Operand.tmp 4) (Operand.tmp 6), type := 0, pos := "l05_dates.go:166", after := #[{ on := 0, ground := Ground.data }, { on := 2, ground := Ground.data }], guard := none } : Oper) (yielded ops (actX g gb0 x).tmps) = true then Oper.wp Try.prog ({ dst := some 7, op := Op.indexAddr 55 (Operand.tmp 4) (Operand.tmp 6), type := 0, pos := "l05_dates.go:166", after := #[{ on := 0, ground := Ground.data }, { on := 2, ground := Ground.data }], guard := none } : Oper) (actX g gb0 x) W K Q else K ((actX g gb0 x).put (some 7) undef) W := by
  intro K hK
  have hf : l.getD 3 false = false := by rw [← getD_both (by rw [hI.sz]; decide)]; exact hun
  obtain ⟨e1, e2⟩ := hI.c0 hd0
  have e3 := hI.c2 hd2
  have hr := hI.wf.h4
  rw [e2] at hr
  obtain ⟨A, c, e4⟩ := Kd.R_slice hr
  have hr2 := hr
  rw [e4] at hr2
  obtain ⟨ad, rfl, hx⟩ := Kd.at_int (Kd.R_reads' hr2).2.2 t162 q0 q1
  have q0' := eq_true q0
  have q1' := eq_true q1
  refine value_ (w1 := W) (v := .pointer (some (ad.add t162.toNat))) (by rfl) rfl ?_ ?_
  · have s1 := e1.trans e4
    have hc := (Kd.R_reads' hr2).2.1
    unfold actX
    go_simp
    try rfl
  exact hK _ _ ⟨{ x with t7 := .pointer (some (ad.add t162.toNat)) }, G, rfl,
    { sz := by rw [Array.size_setIfInBounds]; exact hI.sz,
      last := by rw [getD_set_ne true (by decide)]; exact hI.last,
      m1 := setT hI.m1,
      m5 := setT hI.m5,
      m9 := setT hI.m9,
      m14 := setT hI.m14,
      m18 := setT hI.m18,
      wf := hI.wf,
      pp := by rw [getD_set_ne false (by decide), getD_set_ne false (by decide), getD_set_ne false (by decide), getD_set_ne false (by decide), getD_set_ne false (by decide)]; exact hI.pp,
      cl3 := fun _ => setT hd0,
      cl11 := fun h => setT (hI.cl11 (keepT (by decide) h)),
      cl16 := fun h => setT (hI.cl16 (keepT (by decide) h)),
      cl6 := fun h => setT (hI.cl6 (keepT (by decide) h)),
      cl10 := fun h => setT (hI.cl10 (keepT (by decide) h)),
      cl15 := fun h => setT (hI.cl15 (keepT (by decide) h)),
      cl19 := fun h => setT (hI.cl19 (keepT (by decide) h)),
      c0 := fun h => hI.c0 (keepT (by decide) h),
      c2 := fun h => hI.c2 (keepT (by decide) h),
      c3 := fun _ => ⟨ad, c, e4, rfl⟩,
      c4 := fun h => hI.c4 (keepT (by decide) h),
      c6 := fun h => hI.c6 (keepT (by decide) h),
      c7 := fun h => hI.c7 (keepT (by decide) h),
      c8 := fun h => hI.c8 (keepT (by decide) h),
      c10 := fun h => hI.c10 (keepT (by decide) h),
      c11 := fun h => hI.c11 (keepT (by decide) h),
      c12 := fun h => hI.c12 (keepT (by decide) h),
      c13 := fun h => hI.c13 (keepT (by decide) h),
      c15 := fun h => hI.c15 (keepT (by decide) h),
      c16 := fun h => hI.c16 (keepT (by decide) h),
      c17 := fun h => hI.c17 (keepT (by decide) h),
      c19 := fun h => hI.c19 (keepT (by decide) h),
      c20 := fun h => hI.c20 (keepT (by decide) h),
      c21 := fun h => hI.c21 (keepT (by decide) h) }⟩
theorem st4 {w0 w : World} {g gb0 : Nat} {s : List Int} {y159 y167 y173 : List Int} {t162 t165 t170 t176 t179 p0 p1 p2 p3 p4 p5 : Int} {l : Array Bool} {x : Tm} {G : Gh} {W : World} (hI : DI w0 w g gb0 s y159 y167 y173 t162 t165 t170 t176 t179 p0 p1 p2 p3 p4 p5 l x G W) (hun : l.getD 4 true = false) (hd3 : l.getD 3 false = true) (q0 : 0 ≤ t162) (q1 : t162 < (y159.length : Int))
    : ∀ K : Act → World → Prop, (∀ a' w', Inv w0 w g gb0 s y159 y167 y173 t162 t165 t170 t176 t179 p0 p1 p2 p3 p4 p5 (l.setIfInBounds 4 true) a' w' → K a' w') →
    if Region.wanted ({ dst := some 8, op := Op.load 2 (Operand.tmp 7), type := 2, pos := "l05_dates.go:166", after := #[{ on := 3, ground := Ground.data }], guard := none } : Oper) (yielded ops (actX g gb0 x).tmps) = true then Oper.wp Try.prog ({ dst := some 8, op := Op.load 2 (Operand.tmp 7), type := 2, pos := "l05_dates.go:166", after := #[{ on := 3, ground := Ground.data }], guard := none } : Oper) (actX g gb0 x) W K Q else K ((actX g gb0 x).put (some 8) undef) W := by
  intro K hK
  have hf : l.getD 4 false = false := by rw [← getD_both (by rw [hI.sz]; decide)]; exact hun
  obtain ⟨ad, c, e4, e5⟩ := hI.c3 hd3
  have e2 := (hI.c0 (hI.cl3 hd3)).2
  have hr := hI.wf.h4
  rw [e2, e4] at hr
  obtain ⟨ad', e6, hx⟩ := Kd.at_int (Kd.R_reads' hr).2.2 t162 q0 q1
  obtain rfl : ad = ad' := by injection e6
  refine value_ (w1 := W) (v := .int .i64 (rd y159 t162)) (by rfl) rfl ?_ ?_
  · unfold actX
    go_simp
    try (constructor <;> rfl)
  exact hK _ _ ⟨{ x with t8 := .int .i64 (rd y159 t162) }, G, rfl,
    { sz := by rw [Array.size_setIfInBounds]; exact hI.sz,
      last := by rw [getD_set_ne true (by decide)]; exact hI.last,
      m1 := setT hI.m1,
      m5 := setT hI.m5,
      m9 := setT hI.m9,
      m14 := setT hI.m14,
      m18 := setT hI.m18,
      wf := hI.wf,
      pp := by rw [getD_set_ne false (by decide), getD_set_ne false (by decide), getD_set_ne false (by decide), getD_set_ne false (by decide), getD_set_ne false (by decide)]; exact hI.pp,
      cl3 := fun h => setT (hI.cl3 (keepT (by decide) h)),
      cl11 := fun h => setT (hI.cl11 (keepT (by decide) h)),
      cl16 := fun h => setT (hI.cl16 (keepT (by decide) h)),
      cl6 := fun h => setT (hI.cl6 (keepT (by decide) h)),
      cl10 := fun h => setT (hI.cl10 (keepT (by decide) h)),
      cl15 := fun h => setT (hI.cl15 (keepT (by decide) h)),
      cl19 := fun h => setT (hI.cl19 (keepT (by decide) h)),
      c0 := fun h => hI.c0 (keepT (by decide) h),
      c2 := fun h => hI.c2 (keepT (by decide) h),
      c3 := fun h => hI.c3 (keepT (by decide) h),
      c4 := fun _ => rfl,
      c6 := fun h => hI.c6 (keepT (by decide) h),
      c7 := fun h => hI.c7 (keepT (by decide) h),
      c8 := fun h => hI.c8 (keepT (by decide) h),
      c10 := fun h => hI.c10 (keepT (by decide) h),
      c11 := fun h => hI.c11 (keepT (by decide) h),
      c12 := fun h => hI.c12 (keepT (by decide) h),
      c13 := fun h => hI.c13 (keepT (by decide) h),
      c15 := fun h => hI.c15 (keepT (by decide) h),
      c16 := fun h => hI.c16 (keepT (by decide) h),
      c17 := fun h => hI.c17 (keepT (by decide) h),
      c19 := fun h => hI.c19 (keepT (by decide) h),
      c20 := fun h => hI.c20 (keepT (by decide) h),
      c21 := fun h => hI.c21 (keepT (by decide) h) }⟩
theorem st6 {w0 w : World} {g gb0 : Nat} {s : List Int} {y159 y167 y173 : List Int} {t162 t165 t170 t176 t179 p0 p1 p2 p3 p4 p5 : Int} {l : Array Bool} {x : Tm} {G : Gh} {W : World} (hI : DI w0 w g gb0 s y159 y167 y173 t162 t165 t170 t176 t179 p0 p1 p2 p3 p4 p5 l x G W) (hun : l.getD 6 true = false) (hd5 : l.getD 5 false = true) (hd2 : l.getD 2 false = true) (A165 : spec_l1Rd_below.f s p1 12 = some (t165, p2))
    : ∀ K : Act → World → Prop, (∀ a' w', Inv w0 w g gb0 s y159 y167 y173 t162 t165 t170 t176 t179 p0 p1 p2 p3 p4 p5 (l.setIfInBounds 6 true) a' w' → K a' w') →
    if Region.wanted ({ dst := some 10, op := Op.call { callee := Callee.value (Operand.func 44), args := #[Operand.tmp 9, Operand.const (Value.int IntKind.i64 12)], argTypes := #[50, 3] }, type := 3, pos := "l05_dates.go:166", after := #[{ on := 5, ground := Ground.data }, { on := 2, ground := Ground.chain }], guard := none } : Oper) (yielded ops (actX g gb0 x).tmps) = true then Oper.wp Try.prog ({ dst := some 10, op := Op.call { callee := Callee.value (Operand.func 44), args := #[Operand.tmp 9, Operand.const (Value.int IntKind.i64 12)], argTypes := #[50, 3] }, type := 3, pos := "l05_dates.go:166", after := #[{ on := 5, ground := Ground.data }, { on := 2, ground := Ground.chain }], guard := none } : Oper) (actX g gb0 x) W K Q else K ((actX g gb0 x).put (some 10) undef) W := by
  intro K hK
  have hf : l.getD 6 false = false := by rw [← getD_both (by rw [hI.sz]; decide)]; exact hun
  have hp : G.p = p1 := by
    rw [hI.pp]
    have f10 : l.getD 10 false = false := by
      cases e : l.getD 10 false with
      | false => rfl
      | true => have := hI.cl10 e; rw [hf] at this; cases this
    have f15 : l.getD 15 false = false := by
      cases e : l.getD 15 false with
      | false => rfl
      | true => have := hI.cl15 e; rw [f10] at this; cases this
    have f19 : l.getD 19 false = false := by
      cases e : l.getD 19 false with
      | false => rfl
      | true => have := hI.cl19 e; rw [f15] at this; cases this
    rw [hf, f10, f15, f19, hd2]
    simp [pOf]
  refine goes_ Try.func44 (by kernel_rfl) rfl #[.pointer (some ⟨g, 0, none⟩), .int .i64 12] (by rfl) rfl rfl (by simp only [List.map_toArray, List.map_cons, List.map_nil]; rfl) ?_
  have hi0 := hI.wf.hi
  rw [hp] at hi0
  refine (spec_l1Rd_below.calls g s p1 12 t165 p2 w0 _ hi0 hI.wf.hb A165).mono ?_
  rintro e W1 ⟨rfl, hi, hb, hk⟩
  refine ⟨_, rfl, ?_⟩
  exact hK _ _ ⟨{ x with t10 := .int .i64 t165 }, { G with p := p2 }, rfl,
    { sz := by rw [Array.size_setIfInBounds]; exact hI.sz,
      last := by rw [getD_set_ne true (by decide)]; exact hI.last,
      m1 := setT hI.m1,
      m5 := setT hI.m5,
      m9 := setT hI.m9,
      m14 := setT hI.m14,
      m18 := setT hI.m18,
      wf := hI.wf.call hi hb hk,
      pp := by
        have e6 : (l.setIfInBounds 6 true).getD 6 false = true := by simp [Array.getD, hI.sz]
        have f10 : l.getD 10 false = false := by
          cases e : l.getD 10 false with
          | false => rfl
          | true => have := hI.cl10 e; rw [hf] at this; cases this
        have f15 : l.getD 15 false = false := by
          cases e : l.getD 15 false with
          | false => rfl
          | true => have := hI.cl15 e; rw [f10] at this; cases this
        have f19 : l.getD 19 false = false := by
          cases e : l.getD 19 false with
          | false => rfl
          | true => have := hI.cl19 e; rw [f15] at this; cases this
        have g10 : (l.setIfInBounds 6 true).getD 10 false = false := by rw [getD_set_ne false (by decide)]; exact f10
        have g15 : (l.setIfInBounds 6 true).getD 15 false = false := by rw [getD_set_ne false (by decide)]; exact f15
        have g19 : (l.setIfInBounds 6 true).getD 19 false = false := by rw [getD_set_ne false (by decide)]; exact f19
        show p2 = _
        rw [e6, g10, g15, g19]
        simp [pOf],
      cl3 := fun h => setT (hI.cl3 (keepT (by decide) h)),
      cl11 := fun h => setT (hI.cl11 (keepT (by decide) h)),
      cl16 := fun h => setT (hI.cl16 (keepT (by decide) h)),
      cl6 := fun _ => setT hd2,
      cl10 := fun h => setT (hI.cl10 (keepT (by decide) h)),
      cl15 := fun h => setT (hI.cl15 (keepT (by decide) h)),
      cl19 := fun h => setT (hI.cl19 (keepT (by decide) h)),
      c0 := fun h => hI.c0 (keepT (by decide) h),
      c2 := fun h => hI.c2 (keepT (by decide) h),
      c3 := fun h => hI.c3 (keepT (by decide) h),
      c4 := fun h => hI.c4 (keepT (by decide) h),
      c6 := fun _ => rfl,
      c7 := fun h => hI.c7 (keepT (by decide) h),
      c8 := fun h => hI.c8 (keepT (by decide) h),
      c10 := fun h => hI.c10 (keepT (by decide) h),
      c11 := fun h => hI.c11 (keepT (by decide) h),
      c12 := fun h => hI.c12 (keepT (by decide) h),
      c13 := fun h => hI.c13 (keepT (by decide) h),
      c15 := fun h => hI.c15 (keepT (by decide) h),
      c16 := fun h => hI.c16 (keepT (by decide) h),
      c17 := fun h => hI.c17 (keepT (by decide) h),
      c19 := fun h => hI.c19 (keepT (by decide) h),
      c20 := fun h => hI.c20 (keepT (by decide) h),
      c21 := fun h => hI.c21 (keepT (by decide) h) }⟩
theorem st7 {w0 w : World} {g gb0 : Nat} {s : List Int} {y159 y167 y173 : List Int} {t162 t165 t170 t176 t179 p0 p1 p2 p3 p4 p5 : Int} {l : Array Bool} {x : Tm} {G : Gh} {W : World} (hI : DI w0 w g gb0 s y159 y167 y173 t162 t165 t170 t176 t179 p0 p1 p2 p3 p4 p5 l x G W) (hun : l.getD 7 true = false) (hd6 : l.getD 6 false = true)
    : ∀ K : Act → World → Prop, (∀ a' w', Inv w0 w g gb0 s y159 y167 y173 t162 t165 t170 t176 t179 p0 p1 p2 p3 p4 p5 (l.setIfInBounds 7 true) a' w' → K a' w') →
    if Region.wanted ({ dst := some 11, op := Op.binOp BinOp.add 3 (Operand.const (Value.int IntKind.i64 1)) (Operand.tmp 10) 3, type := 3, pos := "l05_dates.go:166", after := #[{ on := 6, ground := Ground.data }], guard := none } : Oper) (yielded ops (actX g gb0 x).tmps) = true then Oper.wp Try.prog ({ dst := some 11, op := Op.binOp BinOp.add 3 (Operand.const (Value.int IntKind.i64 1)) (Operand.tmp 10) 3, type := 3, pos := "l05_dates.go:166", after := #[{ on := 6, ground := Ground.data }], guard := none } : Oper) (actX g gb0 x) W K Q else K ((actX g gb0 x).put (some 11) undef) W := by
  intro K hK
  have hf : l.getD 7 false = false := by rw [← getD_both (by rw [hI.sz]; decide)]; exact hun
  have e3 := hI.c6 hd6
  refine value_ (w1 := W) (v := .int .i64 (wrap64 (1 + t165))) (by rfl) rfl ?_ ?_
  · unfold actX
    go_simp
    exact i64_w _
  exact hK _ _ ⟨{ x with t11 := .int .i64 (wrap64 (1 + t165)) }, G, rfl,
    { sz := by rw [Array.size_setIfInBounds]; exact hI.sz,
      last := by rw [getD_set_ne true (by decide)]; exact hI.last,
      m1 := setT hI.m1,
      m5 := setT hI.m5,
      m9 := setT hI.m9,
      m14 := setT hI.m14,
      m18 := setT hI.m18,
      wf := hI.wf,
      pp := by rw [getD_set_ne false (by decide), getD_set_ne false (by decide), getD_set_ne false (by decide), getD_set_ne false (by decide), getD_set_ne false (by decide)]; exact hI.pp,
      cl3 := fun h => setT (hI.cl3 (keepT (by decide) h)),
      cl11 := fun h => setT (hI.cl11 (keepT (by decide) h)),
      cl16 := fun h => setT (hI.cl16 (keepT (by decide) h)),
      cl6 := fun h => setT (hI.cl6 (keepT (by decide) h)),
      cl10 := fun h => setT (hI.cl10 (keepT (by decide) h)),
      cl15 := fun h => setT (hI.cl15 (keepT (by decide) h)),
      cl19 := fun h => setT (hI.cl19 (keepT (by decide) h)),
      c0 := fun h => hI.c0 (keepT (by decide) h),
      c2 := fun h => hI.c2 (keepT (by decide) h),
      c3 := fun h => hI.c3 (keepT (by decide) h),
      c4 := fun h => hI.c4 (keepT (by decide) h),
      c6 := fun h => hI.c6 (keepT (by decide) h),
      c7 := fun _ => rfl,
      c8 := fun h => hI.c8 (keepT (by decide) h),
      c10 := fun h => hI.c10 (keepT (by decide) h),
      c11 := fun h => hI.c11 (keepT (by decide) h),
      c12 := fun h => hI.c12 (keepT (by decide) h),
      c13 := fun h => hI.c13 (keepT (by decide) h),
      c15 := fun h => hI.c15 (keepT (by decide) h),
      c16 := fun h => hI.c16 (keepT (by decide) h),
      c17 := fun h => hI.c17 (keepT (by decide) h),
      c19 := fun h => hI.c19 (keepT (by decide) h),
      c20 := fun h => hI.c20 (keepT (by decide) h),
      c21 := fun h => hI.c21 (keepT (by decide) h) }⟩
theorem st8 {w0 w : World} {g gb0 : Nat} {s : List Int} {y159 y167 y173 : List Int} {t162 t165 t170 t176 t179 p0 p1 p2 p3 p4 p5 : Int} {l : Array Bool} {x : Tm} {G : Gh} {W : World} (hI : DI w0 w g gb0 s y159 y167 y173 t162 t165 t170 t176 t179 p0 p1 p2 p3 p4 p5 l x G W) (hun : l.getD 8 true = false) (hy : y167 = [0, 23, 12, 5])
    : ∀ K : Act → World → Prop, (∀ a' w', Inv w0 w g gb0 s y159 y167 y173 t162 t165 t170 t176 t179 p0 p1 p2 p3 p4 p5 (l.setIfInBounds 8 true) a' w' → K a' w') →
    if Region.wanted ({ dst := some 12, op := Op.buildSlice 55 4 #[(0, Operand.const (Value.int IntKind.i64 0)), (1, Operand.const (Value.int IntKind.i64 23)), (2, Operand.const (Value.int IntKind.i64 12)), (3, Operand.const (Value.int IntKind.i64 5))], type := 55, pos := "l05_dates.go:166", after := #[], guard := none } : Oper) (yielded ops (actX g gb0 x).tmps) = true then Oper.wp Try.prog ({ dst := some 12, op := Op.buildSlice 55 4 #[(0, Operand.const (Value.int IntKind.i64 0)), (1, Operand.const (Value.int IntKind.i64 23)), (2, Operand.const (Value.int IntKind.i64 12)), (3, Operand.const (Value.int IntKind.i64 5))], type := 55, pos := "l05_dates.go:166", after := #[], guard := none } : Oper) (actX g gb0 x) W K Q else K ((actX g gb0 x).put (some 12) undef) W := by
  intro K hK
  have hf : l.getD 8 false = false := by rw [← getD_both (by rw [hI.sz]; decide)]; exact hun
  subst hy
  refine Kd.R_lit_step (Kd.int .i64) _ 2 ?hg (N := 12) ?hd (xs := ([0, 23, 12, 5] : List Int)) (inner := [.int .i64 0, .int .i64 23, .int .i64 12, .int .i64 5]) (ok := fun _ => True) (okp := fun _ => True) ?hr ?hp (fun _ hk => hk) trivial (Below.refl _ _) (Nat.le_refl _) (by simp) ?_
  case hd => rfl
  case hg => rfl
  case hr => unfold actX; first | (go_simp; done) | (go_simp; rfl)
  case hp => exact (Reps.one (show Kd.M (Kd.int .i64) _ _ _ 0 [.int .i64 0] from rfl) (Reps.one (show Kd.M (Kd.int .i64) _ _ _ 23 [.int .i64 23] from rfl) (Reps.one (show Kd.M (Kd.int .i64) _ _ _ 12 [.int .i64 12] from rfl) (Reps.one (show Kd.M (Kd.int .i64) _ _ _ 5 [.int .i64 5] from rfl) (Reps.none _ _)))))
  intro v1 W1 ho hb hg_ hnew_
  exact hK _ _ ⟨{ x with t12 := v1 }, { G with v12 := v1, y12 := _ }, rfl,
    { sz := by rw [Array.size_setIfInBounds]; exact hI.sz,
      last := by rw [getD_set_ne true (by decide)]; exact hI.last,
      m1 := setT hI.m1,
      m5 := setT hI.m5,
      m9 := setT hI.m9,
      m14 := setT hI.m14,
      m18 := setT hI.m18,
      wf := hI.wf.lit12 ho hb,
      pp := by rw [getD_set_ne false (by decide), getD_set_ne false (by decide), getD_set_ne false (by decide), getD_set_ne false (by decide), getD_set_ne false (by decide)]; exact hI.pp,
      cl3 := fun h => setT (hI.cl3 (keepT (by decide) h)),
      cl11 := fun h => setT (hI.cl11 (keepT (by decide) h)),
      cl16 := fun h => setT (hI.cl16 (keepT (by decide) h)),
      cl6 := fun h => setT (hI.cl6 (keepT (by decide) h)),
      cl10 := fun h => setT (hI.cl10 (keepT (by decide) h)),
      cl15 := fun h => setT (hI.cl15 (keepT (by decide) h)),
      cl19 := fun h => setT (hI.cl19 (keepT (by decide) h)),
      c0 := fun h => hI.c0 (keepT (by decide) h),
      c2 := fun h => hI.c2 (keepT (by decide) h),
      c3 := fun h => hI.c3 (keepT (by decide) h),
      c4 := fun h => hI.c4 (keepT (by decide) h),
      c6 := fun h => hI.c6 (keepT (by decide) h),
      c7 := fun h => hI.c7 (keepT (by decide) h),
      c8 := fun _ => ⟨rfl, rfl⟩,
      c10 := fun h => hI.c10 (keepT (by decide) h),
      c11 := fun h => absurd (hI.cl11 (keepT (by decide) h)) (by rw [hf]; decide),
      c12 := fun h => hI.c12 (keepT (by decide) h),
      c13 := fun h => hI.c13 (keepT (by decide) h),
      c15 := fun h => hI.c15 (keepT (by decide) h),
      c16 := fun h => hI.c16 (keepT (by decide) h),
      c17 := fun h => hI.c17 (keepT (by decide) h),
      c19 := fun h => hI.c19 (keepT (by decide) h),
      c20 := fun h => hI.c20 (keepT (by decide) h),
      c21 := fun h => hI.c21 (keepT (by decide) h) }⟩
theorem st10 {w0 w : World} {g gb0 : Nat} {s : List Int} {y159 y167 y173 : List Int} {t162 t165 t170 t176 t179 p0 p1 p2 p3 p4 p5 : Int} {l : Array Bool} {x : Tm} {G : Gh} {W : World} (hI : DI w0 w g gb0 s y159 y167 y173 t162 t165 t170 t176 t179 p0 p1 p2 p3 p4 p5 l x G W) (hun : l.getD 10 true = false) (hd9 : l.getD 9 false = true) (hd6 : l.getD 6 false = true) (A170 : spec_l1Rd_below.f s p2 4 = some (t170, p3))
    : ∀ K : Act → World → Prop, (∀ a' w', Inv w0 w g gb0 s y159 y167 y173 t162 t165 t170 t176 t179 p0 p1 p2 p3 p4 p5 (l.setIfInBounds 10 true) a' w' → K a' w') →
    if Region.wanted ({ dst := some 14, op := Op.call { callee := Callee.value (Operand.func 44), args := #[Operand.tmp 13, Operand.const (Value.int IntKind.i64 4)], argTypes := #[50, 3] }, type := 3, pos := "l05_dates.go:166", after := #[{ on := 9, ground := Ground.data }, { on := 6, ground := Ground.chain }], guard := none } : Oper) (yielded ops (actX g gb0 x).tmps) = true then Oper.wp Try.prog ({ dst := some 14, op := Op.call { callee := Callee.value (Operand.func 44), args := #[Operand.tmp 13, Operand.const (Value.int IntKind.i64 4)], argTypes := #[50, 3] }, type := 3, pos := "l05_dates.go:166", after := #[{ on := 9, ground := Ground.data }, { on := 6, ground := Ground.chain }], guard := none } : Oper) (actX g gb0 x) W K Q else K ((actX g gb0 x).put (some 14) undef) W := by
  intro K hK
  have hf : l.getD 10 false = false := by rw [← getD_both (by rw [hI.sz]; decide)]; exact hun
  have hp : G.p = p2 := by
    rw [hI.pp]
    have f15 : l.getD 15 false = false := by
      cases e : l.getD 15 false with
      | false => rfl
      | true => have := hI.cl15 e; rw [hf] at this; cases this
    have f19 : l.getD 19 false = false := by
      cases e : l.getD 19 false with
      | false => rfl
      | true => have := hI.cl19 e; rw [f15] at this; cases this
    rw [hf, f15, f19, hd6]
    simp [pOf]
  refine goes_ Try.func44 (by kernel_rfl) rfl #[.pointer (some ⟨g, 0, none⟩), .int .i64 4] (by rfl) rfl rfl (by simp only [List.map_toArray, List.map_cons, List.map_nil]; rfl) ?_
  have hi0 := hI.wf.hi
  rw [hp] at hi0
  refine (spec_l1Rd_below.calls g s p2 4 t170 p3 w0 _ hi0 hI.wf.hb A170).mono ?_
  rintro e W1 ⟨rfl, hi, hb, hk⟩
  refine ⟨_, rfl, ?_⟩
  exact hK _ _ ⟨{ x with t14 := .int .i64 t170 }, { G with p := p3 }, rfl,
    { sz := by rw [Array.size_setIfInBounds]; exact hI.sz,
      last := by rw [getD_set_ne true (by decide)]; exact hI.last,
      m1 := setT hI.m1,
      m5 := setT hI.m5,
      m9 := setT hI.m9,
      m14 := setT hI.m14,
      m18 := setT hI.m18,
      wf := hI.wf.call hi hb hk,
      pp := by
        have e10 : (l.setIfInBounds 10 true).getD 10 false = true := by simp [Array.getD, hI.sz]
        have f15 : l.getD 15 false = false := by
          cases e : l.getD 15 false with
          | false => rfl
          | true => have := hI.cl15 e; rw [hf] at this; cases this
        have f19 : l.getD 19 false = false := by
          cases e : l.getD 19 false with
          | false => rfl
          | true => have := hI.cl19 e; rw [f15] at this; cases this
        have g15 : (l.setIfInBounds 10 true).getD 15 false = false := by rw [getD_set_ne false (by decide)]; exact f15
        have g19 : (l.setIfInBounds 10 true).getD 19 false = false := by rw [getD_set_ne false (by decide)]; exact f19
        show p3 = _
        rw [e10, g15, g19]
        simp [pOf],
      cl3 := fun h => setT (hI.cl3 (keepT (by decide) h)),
      cl11 := fun h => setT (hI.cl11 (keepT (by decide) h)),
      cl16 := fun h => setT (hI.cl16 (keepT (by decide) h)),
      cl6 := fun h => setT (hI.cl6 (keepT (by decide) h)),
      cl10 := fun _ => setT hd6,
      cl15 := fun h => setT (hI.cl15 (keepT (by decide) h)),
      cl19 := fun h => setT (hI.cl19 (keepT (by decide) h)),
      c0 := fun h => hI.c0 (keepT (by decide) h),
      c2 := fun h => hI.c2 (keepT (by decide) h),
      c3 := fun h => hI.c3 (keepT (by decide) h),
      c4 := fun h => hI.c4 (keepT (by decide) h),
      c6 := fun h => hI.c6 (keepT (by decide) h),
      c7 := fun h => hI.c7 (keepT (by decide) h),
      c8 := fun h => hI.c8 (keepT (by decide) h),
      c10 := fun _ => rfl,
      c11 := fun h => hI.c11 (keepT (by decide) h),
      c12 := fun h => hI.c12 (keepT (by decide) h),
      c13 := fun h => hI.c13 (keepT (by decide) h),
      c15 := fun h => hI.c15 (keepT (by decide) h),
      c16 := fun h => hI.c16 (keepT (by decide) h),
      c17 := fun h => hI.c17 (keepT (by decide) h),
      c19 := fun h => hI.c19 (keepT (by decide) h),
      c20 := fun h => hI.c20 (keepT (by decide) h),
      c21 := fun h => hI.c21 (keepT (by decide) h) }⟩
theorem st11 {w0 w : World} {g gb0 : Nat} {s : List Int} {y159 y167 y173 : List Int} {t162 t165 t170 t176 t179 p0 p1 p2 p3 p4 p5 : Int} {l : Array Bool} {x : Tm} {G : Gh} {W : World} (hI : DI w0 w g gb0 s y159 y167 y173 t162 t165 t170 t176 t179 p0 p1 p2 p3 p4 p5 l x G W) (hun : l.getD 11 true = false) (hd8 : l.getD 8 false = true) (hd10 : l.getD 10 false = true) (q0 : 0 ≤ t170) (q1 : t170 < (y167.length : Int))
    : ∀ K : Act → World → Prop, (∀ a' w', Inv w0 w g gb0 s y159 y167 y173 t162 t165 t170 t176 t179 p0 p1 p2 p3 p4 p5 (l.setIfInBounds 11 true) a' w' → K a' w') →
    if Region.wanted ({ dst := some 15, op := Op.indexAddr 55 (Operand.tmp 12) (Operand.tmp 14), type := 0, pos := "l05_dates.go:166", after := #[{ on := 8, ground := Ground.data }, { on := 10, ground := Ground.data }], guard := none } : Oper) (yielded ops (actX g gb0 x).tmps) = true then Oper.wp Try.prog ({ dst := some 15, op := Op.indexAddr 55 (Operand.tmp 12) (Operand.tmp 14), type := 0, pos := "l05_dates.go:166", after := #[{ on := 8, ground := Ground.data }, { on := 10, ground := Ground.data }], guard := none } : Oper) (actX g gb0 x) W K Q else K ((actX g gb0 x).put (some 15) undef) W := by
  intro K hK
  have hf : l.getD 11 false = false := by rw [← getD_both (by rw [hI.sz]; decide)]; exact hun
  obtain ⟨e1, e2⟩ := hI.c8 hd8
  have e3 := hI.c10 hd10
  have hr := hI.wf.h12
  rw [e2] at hr
  obtain ⟨A, c, e4⟩ := Kd.R_slice hr
  have hr2 := hr
  rw [e4] at hr2
  obtain ⟨ad, rfl, hx⟩ := Kd.at_int (Kd.R_reads' hr2).2.2 t170 q0 q1
  have q0' := eq_true q0
  have q1' := eq_true q1
  refine value_ (w1 := W) (v := .pointer (some (ad.add t170.toNat))) (by rfl) rfl ?_ ?_
  · have s1 := e1.trans e4
    have hc := (Kd.R_reads' hr2).2.1
    unfold actX
    go_simp
    try rfl
  exact hK _ _ ⟨{ x with t15 := .pointer (some (ad.add t170.toNat)) }, G, rfl,
    { sz := by rw [Array.size_setIfInBounds]; exact hI.sz,
      last := by rw [getD_set_ne true (by decide)]; exact hI.last,
      m1 := setT hI.m1,
      m5 := setT hI.m5,
      m9 := setT hI.m9,
      m14 := setT hI.m14,
      m18 := setT hI.m18,
      wf := hI.wf,
      pp := by rw [getD_set_ne false (by decide), getD_set_ne false (by decide), getD_set_ne false (by decide), getD_set_ne false (by decide), getD_set_ne false (by decide)]; exact hI.pp,
      cl3 := fun h => setT (hI.cl3 (keepT (by decide) h)),
      cl11 := fun _ => setT hd8,
      cl16 := fun h => setT (hI.cl16 (keepT (by decide) h)),
      cl6 := fun h => setT (hI.cl6 (keepT (by decide) h)),
      cl10 := fun h => setT (hI.cl10 (keepT (by decide) h)),
      cl15 := fun h => setT (hI.cl15 (keepT (by decide) h)),
      cl19 := fun h => setT (hI.cl19 (keepT (by decide) h)),
      c0 := fun h => hI.c0 (keepT (by decide) h),
      c2 := fun h => hI.c2 (keepT (by decide) h),
      c3 := fun h => hI.c3 (keepT (by decide) h),
      c4 := fun h => hI.c4 (keepT (by decide) h),
      c6 := fun h => hI.c6 (keepT (by decide) h),
      c7 := fun h => hI.c7 (keepT (by decide) h),
      c8 := fun h => hI.c8 (keepT (by decide) h),
      c10 := fun h => hI.c10 (keepT (by decide) h),
      c11 := fun _ => ⟨ad, c, e4, rfl⟩,
      c12 := fun h => hI.c12 (keepT (by decide) h),
      c13 := fun h => hI.c13 (keepT (by decide) h),
      c15 := fun h => hI.c15 (keepT (by decide) h),
      c16 := fun h => hI.c16 (keepT (by decide) h),
      c17 := fun h => hI.c17 (keepT (by decide) h),
      c19 := fun h => hI.c19 (keepT (by decide) h),
      c20 := fun h => hI.c20 (keepT (by decide) h),
      c21 := fun h => hI.c21 (keepT (by decide) h) }⟩
theorem st12 {w0 w : World} {g gb0 : Nat} {s : List Int} {y159 y167 y173 : List Int} {t162 t165 t170 t176 t179 p0 p1 p2 p3 p4 p5 : Int} {l : Array Bool} {x : Tm} {G : Gh} {W : World} (hI : DI w0 w g gb0 s y159 y167 y173 t162 t165 t170 t176 t179 p0 p1 p2 p3 p4 p5 l x G W) (hun : l.getD 12 true = false) (hd11 : l.getD 11 false = true) (q0 : 0 ≤ t170) (q1 : t170 < (y167.length : Int))
    : ∀ K : Act → World → Prop, (∀ a' w', Inv w0 w g gb0 s y159 y167 y173 t162 t165 t170 t176 t179 p0 p1 p2 p3 p4 p5 (l.setIfInBounds 12 true) a' w' → K a' w') →
    if Region.wanted ({ dst := some 16, op := Op.load 2 (Operand.tmp 15), type := 2, pos := "l05_dates.go:166", after := #[{ on := 11, ground := Ground.data }], guard := none } : Oper) (yielded ops (actX g gb0 x).tmps) = true then Oper.wp Try.prog ({ dst := some 16, op := Op.load 2 (Operand.tmp 15), type := 2, pos := "l05_dates.go:166", after := #[{ on := 11, ground := Ground.data }], guard := none } : Oper) (actX g gb0 x) W K Q else K ((actX g gb0 x).put (some 16) undef) W := by
  intro K hK
  have hf : l.getD 12 false = false := by rw [← getD_both (by rw [hI.sz]; decide)]; exact hun
  obtain ⟨ad, c, e4, e5⟩ := hI.c11 hd11
  have e2 := (hI.c8 (hI.cl11 hd11)).2
  have hr := hI.wf.h12
  rw [e2, e4] at hr
  obtain ⟨ad', e6, hx⟩ := Kd.at_int (Kd.R_reads' hr).2.2 t170 q0 q1
  obtain rfl : ad = ad' := by injection e6
  refine value_ (w1 := W) (v := .int .i64 (rd y167 t170)) (by rfl) rfl ?_ ?_
  · unfold actX
    go_simp
    try (constructor <;> rfl)
  exact hK _ _ ⟨{ x with t16 := .int .i64 (rd y167 t170) }, G, rfl,
    { sz := by rw [Array.size_setIfInBounds]; exact hI.sz,
      last := by rw [getD_set_ne true (by decide)]; exact hI.last,
      m1 := setT hI.m1,
      m5 := setT hI.m5,
      m9 := setT hI.m9,
      m14 := setT hI.m14,
      m18 := setT hI.m18,
      wf := hI.wf,
      pp := by rw [getD_set_ne false (by decide), getD_set_ne false (by decide), getD_set_ne false (by decide), getD_set_ne false (by decide), getD_set_ne false (by decide)]; exact hI.pp,
      cl3 := fun h => setT (hI.cl3 (keepT (by decide) h)),
      cl11 := fun h => setT (hI.cl11 (keepT (by decide) h)),
      cl16 := fun h => setT (hI.cl16 (keepT (by decide) h)),
      cl6 := fun h => setT (hI.cl6 (keepT (by decide) h)),
      cl10 := fun h => setT (hI.cl10 (keepT (by decide) h)),
      cl15 := fun h => setT (hI.cl15 (keepT (by decide) h)),
      cl19 := fun h => setT (hI.cl19 (keepT (by decide) h)),
      c0 := fun h => hI.c0 (keepT (by decide) h),
      c2 := fun h => hI.c2 (keepT (by decide) h),
      c3 := fun h => hI.c3 (keepT (by decide) h),
      c4 := fun h => hI.c4 (keepT (by decide) h),
      c6 := fun h => hI.c6 (keepT (by decide) h),
      c7 := fun h => hI.c7 (keepT (by decide) h),
      c8 := fun h => hI.c8 (keepT (by decide) h),
      c10 := fun h => hI.c10 (keepT (by decide) h),
      c11 := fun h => hI.c11 (keepT (by decide) h),
      c12 := fun _ => rfl,
      c13 := fun h => hI.c13 (keepT (by decide) h),
      c15 := fun h => hI.c15 (keepT (by decide) h),
      c16 := fun h => hI.c16 (keepT (by decide) h),
      c17 := fun h => hI.c17 (keepT (by decide) h),
      c19 := fun h => hI.c19 (keepT (by decide) h),
      c20 := fun h => hI.c20 (keepT (by decide) h),
      c21 := fun h => hI.c21 (keepT (by decide) h) }⟩
theorem st13 {w0 w : World} {g gb0 : Nat} {s : List Int} {y159 y167 y173 : List Int} {t162 t165 t170 t176 t179 p0 p1 p2 p3 p4 p5 : Int} {l : Array Bool} {x : Tm} {G : Gh} {W : World} (hI : DI w0 w g gb0 s y159 y167 y173 t162 t165 t170 t176 t179 p0 p1 p2 p3 p4 p5 l x G W) (hun : l.getD 13 true = false) (hy : y173 = [0, 59, 30])
    : ∀ K : Act → World → Prop, (∀ a' w', Inv w0 w g gb0 s y159 y167 y173 t162 t165 t170 t176 t179 p0 p1 p2 p3 p4 p5 (l.setIfInBounds 13 true) a' w' → K a' w') →
    if Region.wanted ({ dst := some 17, op := Op.buildSlice 55 3 #[(0, Operand.const (Value.int IntKind.i64 0)), (1, Operand.const (Value.int IntKind.i64 59)), (2, Operand.const (Value.int IntKind.i64 30))], type := 55, pos := "l05_dates.go:166", after := #[], guard := none } : Oper) (yielded ops (actX g gb0 x).tmps) = true then Oper.wp Try.prog ({ dst := some 17, op := Op.buildSlice 55 3 #[(0, Operand.const (Value.int IntKind.i64 0)), (1, Operand.const (Value.int IntKind.i64 59)), (2, Operand.const (Value.int IntKind.i64 30))], type := 55, pos := "l05_dates.go:166", after := #[], guard := none } : Oper) (actX g gb0 x) W K Q else K ((actX g gb0 x).put (some 17) undef) W := by
  intro K hK
  have hf : l.getD 13 false = false := by rw [← getD_both (by rw [hI.sz]; decide)]; exact hun
  subst hy
  refine Kd.R_lit_step (Kd.int .i64) _ 2 ?hg (N := 17) ?hd (xs := ([0, 59, 30] : List Int)) (inner := [.int .i64 0, .int .i64 59, .int .i64 30]) (ok := fun _ => True) (okp := fun _ => True) ?hr ?hp (fun _ hk => hk) trivial (Below.refl _ _) (Nat.le_refl _) (by simp) ?_
  case hd => rfl
  case hg => rfl
  case hr => unfold actX; first | (go_simp; done) | (go_simp; rfl)
  case hp => exact (Reps.one (show Kd.M (Kd.int .i64) _ _ _ 0 [.int .i64 0] from rfl) (Reps.one (show Kd.M (Kd.int .i64) _ _ _ 59 [.int .i64 59] from rfl) (Reps.one (show Kd.M (Kd.int .i64) _ _ _ 30 [.int .i64 30] from rfl) (Reps.none _ _))))
  intro v1 W1 ho hb hg_ hnew_
  exact hK _ _ ⟨{ x with t17 := v1 }, { G with v17 := v1, y17 := _ }, rfl,
    { sz := by rw [Array.size_setIfInBounds]; exact hI.sz,
      last := by rw [getD_set_ne true (by decide)]; exact hI.last,
      m1 := setT hI.m1,
      m5 := setT hI.m5,
      m9 := setT hI.m9,
      m14 := setT hI.m14,
      m18 := setT hI.m18,
      wf := hI.wf.lit17 ho hb,
      pp := by rw [getD_set_ne false (by decide), getD_set_ne false (by decide), getD_set_ne false (by decide), getD_set_ne false (by decide), getD_set_ne false (by decide)]; exact hI.pp,
      cl3 := fun h => setT (hI.cl3 (keepT (by decide) h)),
      cl11 := fun h => setT (hI.cl11 (keepT (by decide) h)),
      cl16 := fun h => setT (hI.cl16 (keepT (by decide) h)),
      cl6 := fun h => setT (hI.cl6 (keepT (by decide) h)),
      cl10 := fun h => setT (hI.cl10 (keepT (by decide) h)),
      cl15 := fun h => setT (hI.cl15 (keepT (by decide) h)),
      cl19 := fun h => setT (hI.cl19 (keepT (by decide) h)),
      c0 := fun h => hI.c0 (keepT (by decide) h),
      c2 := fun h => hI.c2 (keepT (by decide) h),
      c3 := fun h => hI.c3 (keepT (by decide) h),
      c4 := fun h => hI.c4 (keepT (by decide) h),
      c6 := fun h => hI.c6 (keepT (by decide) h),
      c7 := fun h => hI.c7 (keepT (by decide) h),
      c8 := fun h => hI.c8 (keepT (by decide) h),
      c10 := fun h => hI.c10 (keepT (by decide) h),
      c11 := fun h => hI.c11 (keepT (by decide) h),
      c12 := fun h => hI.c12 (keepT (by decide) h),
      c13 := fun _ => ⟨rfl, rfl⟩,
      c15 := fun h => hI.c15 (keepT (by decide) h),
      c16 := fun h => absurd (hI.cl16 (keepT (by decide) h)) (by rw [hf]; decide),
      c17 := fun h => hI.c17 (keepT (by decide) h),
      c19 := fun h => hI.c19 (keepT (by decide) h),
      c20 := fun h => hI.c20 (keepT (by decide) h),
      c21 := fun h => hI.c21 (keepT (by decide) h) }⟩
theorem st15 {w0 w : World} {g gb0 : Nat} {s : List Int} {y159 y167 y173 : List Int} {t162 t165 t170 t176 t179 p0 p1 p2 p3 p4 p5 : Int} {l : Array Bool} {x : Tm} {G : Gh} {W : World} (hI : DI w0 w g gb0 s y159 y167 y173 t162 t165 t170 t176 t179 p0 p1 p2 p3 p4 p5 l x G W) (hun : l.getD 15 true = false) (hd14 : l.getD 14 false = true) (hd10 : l.getD 10 false = true) (A176 : spec_l1Rd_below.f s p3 3 = some (t176, p4))
    : ∀ K : Act → World → Prop, (∀ a' w', Inv w0 w g gb0 s y159 y167 y173 t162 t165 t170 t176 t179 p0 p1 p2 p3 p4 p5 (l.setIfInBounds 15 true) a' w' → K a' w') →
    if Region.wanted ({ dst := some 19, op := Op.call { callee := Callee.value (Operand.func 44), args := #[Operand.tmp 18, Operand.const (Value.int IntKind.i64 3)], argTypes := #[50, 3] }, type := 3, pos := "l05_dates.go:166", after := #[{ on := 14, ground := Ground.data }, { on := 10, ground := Ground.chain }], guard := none } : Oper) (yielded ops (actX g gb0 x).tmps) = true then Oper.wp Try.prog ({ dst := some 19, op := Op.call { callee := Callee.value (Operand.func 44), args := #[Operand.tmp 18, Operand.const (Value.int IntKind.i64 3)], argTypes := #[50, 3] }, type := 3, pos := "l05_dates.go:166", after := #[{ on := 14, ground := Ground.data }, { on := 10, ground := Ground.chain }], guard := none } : Oper) (actX g gb0 x) W K Q else K ((actX g gb0 x).put (some 19) undef) W := by
  intro K hK
  have hf : l.getD 15 false = false := by rw [← getD_both (by rw [hI.sz]; decide)]; exact hun
  have hp : G.p = p3 := by
    rw [hI.pp]
    have f19 : l.getD 19 false = false := by
      cases e : l.getD 19 false with
      | false => rfl
      | true => have := hI.cl19 e; rw [hf] at this; cases this
    rw [hf, f19, hd10]
    simp [pOf]
  refine goes_ Try.func44 (by kernel_rfl) rfl #[.pointer (some ⟨g, 0, none⟩), .int .i64 3] (by rfl) rfl rfl (by simp only [List.map_toArray, List.map_cons, List.map_nil]; rfl) ?_
  have hi0 := hI.wf.hi
  rw [hp] at hi0
  refine (spec_l1Rd_below.calls g s p3 3 t176 p4 w0 _ hi0 hI.wf.hb A176).mono ?_
  rintro e W1 ⟨rfl, hi, hb, hk⟩
  refine ⟨_, rfl, ?_⟩
  exact hK _ _ ⟨{ x with t19 := .int .i64 t176 }, { G with p := p4 }, rfl,
    { sz := by rw [Array.size_setIfInBounds]; exact hI.sz,
      last := by rw [getD_set_ne true (by decide)]; exact hI.last,
      m1 := setT hI.m1,
      m5 := setT hI.m5,
      m9 := setT hI.m9,
      m14 := setT hI.m14,
      m18 := setT hI.m18,
      wf := hI.wf.call hi hb hk,
      pp := by
        have e15 : (l.setIfInBounds 15 true).getD 15 false = true := by simp [Array.getD, hI.sz]
        have f19 : l.getD 19 false = false := by
          cases e : l.getD 19 false with
          | false => rfl
          | true => have := hI.cl19 e; rw [hf] at this; cases this
        have g19 : (l.setIfInBounds 15 true).getD 19 false = false := by rw [getD_set_ne false (by decide)]; exact f19
        show p4 = _
        rw [e15, g19]
        simp [pOf],
      cl3 := fun h => setT (hI.cl3 (keepT (by decide) h)),
      cl11 := fun h => setT (hI.cl11 (keepT (by decide) h)),
      cl16 := fun h => setT (hI.cl16 (keepT (by decide) h)),
      cl6 := fun h => setT (hI.cl6 (keepT (by decide) h)),
      cl10 := fun h => setT (hI.cl10 (keepT (by decide) h)),
      cl15 := fun _ => setT hd10,
      cl19 := fun h => setT (hI.cl19 (keepT (by decide) h)),
      c0 := fun h => hI.c0 (keepT (by decide) h),
      c2 := fun h => hI.c2 (keepT (by decide) h),
      c3 := fun h => hI.c3 (keepT (by decide) h),
      c4 := fun h => hI.c4 (keepT (by decide) h),
      c6 := fun h => hI.c6 (keepT (by decide) h),
      c7 := fun h => hI.c7 (keepT (by decide) h),
      c8 := fun h => hI.c8 (keepT (by decide) h),
      c10 := fun h => hI.c10 (keepT (by decide) h),
      c11 := fun h => hI.c11 (keepT (by decide) h),
      c12 := fun h => hI.c12 (keepT (by decide) h),
      c13 := fun h => hI.c13 (keepT (by decide) h),
      c15 := fun _ => rfl,
      c16 := fun h => hI.c16 (keepT (by decide) h),
      c17 := fun h => hI.c17 (keepT (by decide) h),
      c19 := fun h => hI.c19 (keepT (by decide) h),
      c20 := fun h => hI.c20 (keepT (by decide) h),
      c21 := fun h => hI.c21 (keepT (by decide) h) }⟩
theorem st16 {w0 w : World} {g gb0 : Nat} {s : List Int} {y159 y167 y173 : List Int} {t162 t165 t170 t176 t179 p0 p1 p2 p3 p4 p5 : Int} {l : Array Bool} {x : Tm} {G : Gh} {W : World} (hI : DI w0 w g gb0 s y159 y167 y173 t162 t165 t170 t176 t179 p0 p1 p2 p3 p4 p5 l x G W) (hun : l.getD 16 true = false) (hd13 : l.getD 13 false = true) (hd15 : l.getD 15 false = true) (q0 : 0 ≤ t176) (q1 : t176 < (y173.length : Int))
    : ∀ K : Act → World → Prop, (∀ a' w', Inv w0 w g gb0 s y159 y167 y173 t162 t165 t170 t176 t179 p0 p1 p2 p3 p4 p5 (l.setIfInBounds 16 true) a' w' → K a' w') →
    if Region.wanted ({ dst := some 20, op := Op.indexAddr 55 (Operand.tmp 17) (Operand.tmp 19), type := 0, pos := "l05_dates.go:166", after := #[{ on := 13, ground := Ground.data }, { on := 15, ground := Ground.data }], guard := none } : Oper) (yielded ops (actX g gb0 x).tmps) = true then Oper.wp Try.prog ({ dst := some 20, op := Op.indexAddr 55 (Operand.tmp 17) (Operand.tmp 19), type := 0, pos := "l05_dates.go:166", after := #[{ on := 13, ground := Ground.data }, { on := 15, ground := Ground.data }], guard := none } : Oper) (actX g gb0 x) W K Q else K ((actX g gb0 x).put (some 20) undef) W := by
  intro K hK
  have hf : l.getD 16 false = false := by rw [← getD_both (by rw [hI.sz]; decide)]; exact hun
  obtain ⟨e1, e2⟩ := hI.c13 hd13
  have e3 := hI.c15 hd15
  have hr := hI.wf.h17
  rw [e2] at hr
  obtain ⟨A, c, e4⟩ := Kd.R_slice hr
  have hr2 := hr
  rw [e4] at hr2
  obtain ⟨ad, rfl, hx⟩ := Kd.at_int (Kd.R_reads' hr2).2.2 t176 q0 q1
  have q0' := eq_true q0
  have q1' := eq_true q1
  refine value_ (w1 := W) (v := .pointer (some (ad.add t176.toNat))) (by rfl) rfl ?_ ?_
  · have s1 := e1.trans e4
    have hc := (Kd.R_reads' hr2).2.1
    unfold actX
    go_simp
    try rfl
  exact hK _ _ ⟨{ x with t20 := .pointer (some (ad.add t176.toNat)) }, G, rfl,
    { sz := by rw [Array.size_setIfInBounds]; exact hI.sz,
      last := by rw [getD_set_ne true (by decide)]; exact hI.last,
      m1 := setT hI.m1,
      m5 := setT hI.m5,
      m9 := setT hI.m9,
      m14 := setT hI.m14,
      m18 := setT hI.m18,
      wf := hI.wf,
      pp := by rw [getD_set_ne false (by decide), getD_set_ne false (by decide), getD_set_ne false (by decide), getD_set_ne false (by decide), getD_set_ne false (by decide)]; exact hI.pp,
      cl3 := fun h => setT (hI.cl3 (keepT (by decide) h)),
      cl11 := fun h => setT (hI.cl11 (keepT (by decide) h)),
      cl16 := fun _ => setT hd13,
      cl6 := fun h => setT (hI.cl6 (keepT (by decide) h)),
      cl10 := fun h => setT (hI.cl10 (keepT (by decide) h)),
      cl15 := fun h => setT (hI.cl15 (keepT (by decide) h)),
      cl19 := fun h => setT (hI.cl19 (keepT (by decide) h)),
      c0 := fun h => hI.c0 (keepT (by decide) h),
      c2 := fun h => hI.c2 (keepT (by decide) h),
      c3 := fun h => hI.c3 (keepT (by decide) h),
      c4 := fun h => hI.c4 (keepT (by decide) h),
      c6 := fun h => hI.c6 (keepT (by decide) h),
      c7 := fun h => hI.c7 (keepT (by decide) h),
      c8 := fun h => hI.c8 (keepT (by decide) h),
      c10 := fun h => hI.c10 (keepT (by decide) h),
      c11 := fun h => hI.c11 (keepT (by decide) h),
      c12 := fun h => hI.c12 (keepT (by decide) h),
      c13 := fun h => hI.c13 (keepT (by decide) h),
      c15 := fun h => hI.c15 (keepT (by decide) h),
      c16 := fun _ => ⟨ad, c, e4, rfl⟩,
      c17 := fun h => hI.c17 (keepT (by decide) h),
      c19 := fun h => hI.c19 (keepT (by decide) h),
      c20 := fun h => hI.c20 (keepT (by decide) h),
      c21 := fun h => hI.c21 (keepT (by decide) h) }⟩
theorem st17 {w0 w : World} {g gb0 : Nat} {s : List Int} {y159 y167 y173 : List Int} {t162 t165 t170 t176 t179 p0 p1 p2 p3 p4 p5 : Int} {l : Array Bool} {x : Tm} {G : Gh} {W : World} (hI : DI w0 w g gb0 s y159 y167 y173 t162 t165 t170 t176 t179 p0 p1 p2 p3 p4 p5 l x G W) (hun : l.getD 17 true = false) (hd16 : l.getD 16 false = true) (q0 : 0 ≤ t176) (q1 : t176 < (y173.length : Int))
    : ∀ K : Act → World → Prop, (∀ a' w', Inv w0 w g gb0 s y159 y167 y173 t162 t165 t170 t176 t179 p0 p1 p2 p3 p4 p5 (l.setIfInBounds 17 true) a' w' → K a' w') →
    if Region.wanted ({ dst := some 21, op := Op.load 2 (Operand.tmp 20), type := 2, pos := "l05_dates.go:166", after := #[{ on := 16, ground := Ground.data }], guard := none } : Oper) (yielded ops (actX g gb0 x).tmps) = true then Oper.wp Try.prog ({ dst := some 21, op := Op.load 2 (Operand.tmp 20), type := 2, pos := "l05_dates.go:166", after := #[{ on := 16, ground := Ground.data }], guard := none } : Oper) (actX g gb0 x) W K Q else K ((actX g gb0 x).put (some 21) undef) W := by
  intro K hK
  have hf : l.getD 17 false = false := by rw [← getD_both (by rw [hI.sz]; decide)]; exact hun
  obtain ⟨ad, c, e4, e5⟩ := hI.c16 hd16
  have e2 := (hI.c13 (hI.cl16 hd16)).2
  have hr := hI.wf.h17
  rw [e2, e4] at hr
  obtain ⟨ad', e6, hx⟩ := Kd.at_int (Kd.R_reads' hr).2.2 t176 q0 q1
  obtain rfl : ad = ad' := by injection e6
  refine value_ (w1 := W) (v := .int .i64 (rd y173 t176)) (by rfl) rfl ?_ ?_
  · unfold actX
    go_simp
    try (constructor <;> rfl)
  exact hK _ _ ⟨{ x with t21 := .int .i64 (rd y173 t176) }, G, rfl,
    { sz := by rw [Array.size_setIfInBounds]; exact hI.sz,
      last := by rw [getD_set_ne true (by decide)]; exact hI.last,
      m1 := setT hI.m1,
      m5 := setT hI.m5,
      m9 := setT hI.m9,
      m14 := setT hI.m14,
      m18 := setT hI.m18,
      wf := hI.wf,
      pp := by rw [getD_set_ne false (by decide), getD_set_ne false (by decide), getD_set_ne false (by decide), getD_set_ne false (by decide), getD_set_ne false (by decide)]; exact hI.pp,
      cl3 := fun h => setT (hI.cl3 (keepT (by decide) h)),
      cl11 := fun h => setT (hI.cl11 (keepT (by decide) h)),
      cl16 := fun h => setT (hI.cl16 (keepT (by decide) h)),
      cl6 := fun h => setT (hI.cl6 (keepT (by decide) h)),
      cl10 := fun h => setT (hI.cl10 (keepT (by decide) h)),
      cl15 := fun h => setT (hI.cl15 (keepT (by decide) h)),
      cl19 := fun h => setT (hI.cl19 (keepT (by decide) h)),
      c0 := fun h => hI.c0 (keepT (by decide) h),
      c2 := fun h => hI.c2 (keepT (by decide) h),
      c3 := fun h => hI.c3 (keepT (by decide) h),
      c4 := fun h => hI.c4 (keepT (by decide) h),
      c6 := fun h => hI.c6 (keepT (by decide) h),
      c7 := fun h => hI.c7 (keepT (by decide) h),
      c8 := fun h => hI.c8 (keepT (by decide) h),
      c10 := fun h => hI.c10 (keepT (by decide) h),
      c11 := fun h => hI.c11 (keepT (by decide) h),
      c12 := fun h => hI.c12 (keepT (by decide) h),
      c13 := fun h => hI.c13 (keepT (by decide) h),
      c15 := fun h => hI.c15 (keepT (by decide) h),
      c16 := fun h => hI.c16 (keepT (by decide) h),
      c17 := fun _ => rfl,
      c19 := fun h => hI.c19 (keepT (by decide) h),
      c20 := fun h => hI.c20 (keepT (by decide) h),
      c21 := fun h => hI.c21 (keepT (by decide) h) }⟩
theorem st19 {w0 w : World} {g gb0 : Nat} {s : List Int} {y159 y167 y173 : List Int} {t162 t165 t170 t176 t179 p0 p1 p2 p3 p4 p5 : Int} {l : Array Bool} {x : Tm} {G : Gh} {W : World} (hI : DI w0 w g gb0 s y159 y167 y173 t162 t165 t170 t176 t179 p0 p1 p2 p3 p4 p5 l x G W) (hun : l.getD 19 true = false) (hd18 : l.getD 18 false = true) (hd15 : l.getD 15 false = true) (A179 : spec_l1Rd_below.f s p4 60 = some (t179, p5))
    : ∀ K : Act → World → Prop, (∀ a' w', Inv w0 w g gb0 s y159 y167 y173 t162 t165 t170 t176 t179 p0 p1 p2 p3 p4 p5 (l.setIfInBounds 19 true) a' w' → K a' w') →
    if Region.wanted ({ dst := some 23, op := Op.call { callee := Callee.value (Operand.func 44), args := #[Operand.tmp 22, Operand.const (Value.int IntKind.i64 60)], argTypes := #[50, 3] }, type := 3, pos := "l05_dates.go:166", after := #[{ on := 18, ground := Ground.data }, { on := 15, ground := Ground.chain }], guard := none } : Oper) (yielded ops (actX g gb0 x).tmps) = true then Oper.wp Try.prog ({ dst := some 23, op := Op.call { callee := Callee.value (Operand.func 44), args := #[Operand.tmp 22, Operand.const (Value.int IntKind.i64 60)], argTypes := #[50, 3] }, type := 3, pos := "l05_dates.go:166", after := #[{ on := 18, ground := Ground.data }, { on := 15, ground := Ground.chain }], guard := none } : Oper) (actX g gb0 x) W K Q else K ((actX g gb0 x).put (some 23) undef) W := by
  intro K hK
  have hf : l.getD 19 false = false := by rw [← getD_both (by rw [hI.sz]; decide)]; exact hun
  have hp : G.p = p4 := by
    rw [hI.pp]
    rw [hf, hd15]
    simp [pOf]
  refine goes_ Try.func44 (by kernel_rfl) rfl #[.pointer (some ⟨g, 0, none⟩), .int .i64 60] (by rfl) rfl rfl (by simp only [List.map_toArray, List.map_cons, List.map_nil]; rfl) ?_
  have hi0 := hI.wf.hi
  rw [hp] at hi0
  refine (spec_l1Rd_below.calls g s p4 60 t179 p5 w0 _ hi0 hI.wf.hb A179).mono ?_
  rintro e W1 ⟨rfl, hi, hb, hk⟩
  refine ⟨_, rfl, ?_⟩
  exact hK _ _ ⟨{ x with t23 := .int .i64 t179 }, { G with p := p5 }, rfl,
    { sz := by rw [Array.size_setIfInBounds]; exact hI.sz,
      last := by rw [getD_set_ne true (by decide)]; exact hI.last,
      m1 := setT hI.m1,
      m5 := setT hI.m5,
      m9 := setT hI.m9,
      m14 := setT hI.m14,
      m18 := setT hI.m18,
      wf := hI.wf.call hi hb hk,
      pp := by
        have e19 : (l.setIfInBounds 19 true).getD 19 false = true := by simp [Array.getD, hI.sz]
        show p5 = _
        rw [e19]
        simp [pOf],
      cl3 := fun h => setT (hI.cl3 (keepT (by decide) h)),
      cl11 := fun h => setT (hI.cl11 (keepT (by decide) h)),
      cl16 := fun h => setT (hI.cl16 (keepT (by decide) h)),
      cl6 := fun h => setT (hI.cl6 (keepT (by decide) h)),
      cl10 := fun h => setT (hI.cl10 (keepT (by decide) h)),
      cl15 := fun h => setT (hI.cl15 (keepT (by decide) h)),
      cl19 := fun _ => setT hd15,
      c0 := fun h => hI.c0 (keepT (by decide) h),
      c2 := fun h => hI.c2 (keepT (by decide) h),
      c3 := fun h => hI.c3 (keepT (by decide) h),
      c4 := fun h => hI.c4 (keepT (by decide) h),
      c6 := fun h => hI.c6 (keepT (by decide) h),
      c7 := fun h => hI.c7 (keepT (by decide) h),
      c8 := fun h => hI.c8 (keepT (by decide) h),
      c10 := fun h => hI.c10 (keepT (by decide) h),
      c11 := fun h => hI.c11 (keepT (by decide) h),
      c12 := fun h => hI.c12 (keepT (by decide) h),
      c13 := fun h => hI.c13 (keepT (by decide) h),
      c15 := fun h => hI.c15 (keepT (by decide) h),
      c16 := fun h => hI.c16 (keepT (by decide) h),
      c17 := fun h => hI.c17 (keepT (by decide) h),
      c19 := fun _ => rfl,
      c20 := fun h => hI.c20 (keepT (by decide) h),
      c21 := fun h => hI.c21 (keepT (by decide) h) }⟩
theorem st20 {w0 w : World} {g gb0 : Nat} {s : List Int} {y159 y167 y173 : List Int} {t162 t165 t170 t176 t179 p0 p1 p2 p3 p4 p5 : Int} {l : Array Bool} {x : Tm} {G : Gh} {W : World} (hI : DI w0 w g gb0 s y159 y167 y173 t162 t165 t170 t176 t179 p0 p1 p2 p3 p4 p5 l x G W) (hun : l.getD 20 true = false) (hd4 : l.getD 4 false = true) (hd7 : l.getD 7 false = true) (hd12 : l.getD 12 false = true) (hd17 : l.getD 17 false = true) (hd19 : l.getD 19 false = true)
    : ∀ K : Act → World → Prop, (∀ a' w', Inv w0 w g gb0 s y159 y167 y173 t162 t165 t170 t176 t179 p0 p1 p2 p3 p4 p5 (l.setIfInBounds 20 true) a' w' → K a' w') →
    if Region.wanted ({ dst := some 24, op := Op.build 29 #[(0, Operand.tmp 8), (1, Operand.tmp 11), (3, Operand.tmp 16), (4, Operand.tmp 21), (5, Operand.tmp 23)], type := 29, pos := "l05_dates.go:166", after := #[{ on := 4, ground := Ground.data }, { on := 7, ground := Ground.data }, { on := 12, ground := Ground.data }, { on := 17, ground := Ground.data }, { on := 19, ground := Ground.data }], guard := none } : Oper) (yielded ops (actX g gb0 x).tmps) = true then Oper.wp Try.prog ({ dst := some 24, op := Op.build 29 #[(0, Operand.tmp 8), (1, Operand.tmp 11), (3, Operand.tmp 16), (4, Operand.tmp 21), (5, Operand.tmp 23)], type := 29, pos := "l05_dates.go:166", after := #[{ on := 4, ground := Ground.data }, { on := 7, ground := Ground.data }, { on := 12, ground := Ground.data }, { on := 17, ground := Ground.data }, { on := 19, ground := Ground.data }], guard := none } : Oper) (actX g gb0 x) W K Q else K ((actX g gb0 x).put (some 24) undef) W := by
  intro K hK
  have hf : l.getD 20 false = false := by rw [← getD_both (by rw [hI.sz]; decide)]; exact hun
  have e8 := hI.c4 hd4
  have e11 := hI.c7 hd7
  have e16 := hI.c12 hd12
  have e21 := hI.c17 hd17
  have e23 := hI.c19 hd19
  refine value_ (w1 := W) (v := .agg #[.int .i64 (rd y159 t162), .int .i64 (wrap64 (1 + t165)), .int .i64 0, .int .i64 (rd y167 t170), .int .i64 (rd y173 t176), .int .i64 t179, .bool false, .int .i64 0]) (by rfl) rfl ?_ ?_
  · unfold actX
    go_simp
    try rfl
  exact hK _ _ ⟨{ x with t24 := .agg #[.int .i64 (rd y159 t162), .int .i64 (wrap64 (1 + t165)), .int .i64 0, .int .i64 (rd y167 t170), .int .i64 (rd y173 t176), .int .i64 t179, .bool false, .int .i64 0] }, G, rfl,
    { sz := by rw [Array.size_setIfInBounds]; exact hI.sz,
      last := by rw [getD_set_ne true (by decide)]; exact hI.last,
      m1 := setT hI.m1,
      m5 := setT hI.m5,
      m9 := setT hI.m9,
      m14 := setT hI.m14,
      m18 := setT hI.m18,
      wf := hI.wf,
      pp := by rw [getD_set_ne false (by decide), getD_set_ne false (by decide), getD_set_ne false (by decide), getD_set_ne false (by decide), getD_set_ne false (by decide)]; exact hI.pp,
      cl3 := fun h => setT (hI.cl3 (keepT (by decide) h)),
      cl11 := fun h => setT (hI.cl11 (keepT (by decide) h)),
      cl16 := fun h => setT (hI.cl16 (keepT (by decide) h)),
      cl6 := fun h => setT (hI.cl6 (keepT (by decide) h)),
      cl10 := fun h => setT (hI.cl10 (keepT (by decide) h)),
      cl15 := fun h => setT (hI.cl15 (keepT (by decide) h)),
      cl19 := fun h => setT (hI.cl19 (keepT (by decide) h)),
      c0 := fun h => hI.c0 (keepT (by decide) h),
      c2 := fun h => hI.c2 (keepT (by decide) h),
      c3 := fun h => hI.c3 (keepT (by decide) h),
      c4 := fun h => hI.c4 (keepT (by decide) h),
      c6 := fun h => hI.c6 (keepT (by decide) h),
      c7 := fun h => hI.c7 (keepT (by decide) h),
      c8 := fun h => hI.c8 (keepT (by decide) h),
      c10 := fun h => hI.c10 (keepT (by decide) h),
      c11 := fun h => hI.c11 (keepT (by decide) h),
      c12 := fun h => hI.c12 (keepT (by decide) h),
      c13 := fun h => hI.c13 (keepT (by decide) h),
      c15 := fun h => hI.c15 (keepT (by decide) h),
      c16 := fun h => hI.c16 (keepT (by decide) h),
      c17 := fun h => hI.c17 (keepT (by decide) h),
      c19 := fun h => hI.c19 (keepT (by decide) h),
      c20 := fun _ => rfl,
      c21 := fun h => hI.c21 (keepT (by decide) h) }⟩
theorem st21 {w0 w : World} {g gb0 : Nat} {s : List Int} {y159 y167 y173 : List Int} {t162 t165 t170 t176 t179 p0 p1 p2 p3 p4 p5 : Int} {l : Array Bool} {x : Tm} {G : Gh} {W : World} (hI : DI w0 w g gb0 s y159 y167 y173 t162 t165 t170 t176 t179 p0 p1 p2 p3 p4 p5 l x G W) (hun : l.getD 21 true = false)
    : ∀ K : Act → World → Prop, (∀ a' w', Inv w0 w g gb0 s y159 y167 y173 t162 t165 t170 t176 t179 p0 p1 p2 p3 p4 p5 (l.setIfInBounds 21 true) a' w' → K a' w') →
    if Region.wanted ({ dst := some 3, op := Op.alloc 29, type := 0, pos := "l05_dates.go:166", after := #[], guard := none } : Oper) (yielded ops (actX g gb0 x).tmps) = true then Oper.wp Try.prog ({ dst := some 3, op := Op.alloc 29, type := 0, pos := "l05_dates.go:166", after := #[], guard := none } : Oper) (actX g gb0 x) W K Q else K ((actX g gb0 x).put (some 3) undef) W := by
  intro K hK
  have hf : l.getD 21 false = false := by rw [← getD_both (by rw [hI.sz]; decide)]; exact hun
  refine box_step ?hg (N := 3) ?hd (cs := #[.int .i64 0, .int .i64 0, .int .i64 0, .int .i64 0, .int .i64 0, .int .i64 0, .bool false, .int .i64 0]) (t := 29) ?hr ?_
  case hd => rfl
  case hg => rfl
  case hr => unfold actX; first | (go_simp; done) | (go_simp; rfl)
  intro q hq W1 hbox hb
  have hs1 := keep_size hI.wf.hk
  have hs2 := blk_lt hI.wf.bk
  exact hK _ _ ⟨{ x with t3 := .pointer (some ⟨q, 0, none⟩) }, { G with gb := q }, rfl,
    { sz := by rw [Array.size_setIfInBounds]; exact hI.sz,
      last := by rw [getD_set_ne true (by decide)]; exact hI.last,
      m1 := setT hI.m1,
      m5 := setT hI.m5,
      m9 := setT hI.m9,
      m14 := setT hI.m14,
      m18 := setT hI.m18,
      wf := hI.wf.box hq hbox hb,
      pp := by rw [getD_set_ne false (by decide), getD_set_ne false (by decide), getD_set_ne false (by decide), getD_set_ne false (by decide), getD_set_ne false (by decide)]; exact hI.pp,
      cl3 := fun h => setT (hI.cl3 (keepT (by decide) h)),
      cl11 := fun h => setT (hI.cl11 (keepT (by decide) h)),
      cl16 := fun h => setT (hI.cl16 (keepT (by decide) h)),
      cl6 := fun h => setT (hI.cl6 (keepT (by decide) h)),
      cl10 := fun h => setT (hI.cl10 (keepT (by decide) h)),
      cl15 := fun h => setT (hI.cl15 (keepT (by decide) h)),
      cl19 := fun h => setT (hI.cl19 (keepT (by decide) h)),
      c0 := fun h => hI.c0 (keepT (by decide) h),
      c2 := fun h => hI.c2 (keepT (by decide) h),
      c3 := fun h => hI.c3 (keepT (by decide) h),
      c4 := fun h => hI.c4 (keepT (by decide) h),
      c6 := fun h => hI.c6 (keepT (by decide) h),
      c7 := fun h => hI.c7 (keepT (by decide) h),
      c8 := fun h => hI.c8 (keepT (by decide) h),
      c10 := fun h => hI.c10 (keepT (by decide) h),
      c11 := fun h => hI.c11 (keepT (by decide) h),
      c12 := fun h => hI.c12 (keepT (by decide) h),
      c13 := fun h => hI.c13 (keepT (by decide) h),
      c15 := fun h => hI.c15 (keepT (by decide) h),
      c16 := fun h => hI.c16 (keepT (by decide) h),
      c17 := fun h => hI.c17 (keepT (by decide) h),
      c19 := fun h => hI.c19 (keepT (by decide) h),
      c20 := fun h => hI.c20 (keepT (by decide) h),
      c21 := fun _ => ⟨rfl, by show w.heap.size ≤ q; omega, by show gb0 ≠ q; omega⟩ }⟩
end
theorem rec0 : (opsOf Try.f40 1)[0]? = some ({ dst := some 4, op := Op.buildSlice 55 7 #[(0, Operand.const (Value.int IntKind.i64 1)), (1, Operand.const (Value.int IntKind.i64 1999)), (2, Operand.const (Value.int IntKind.i64 2000)), (3, Operand.const (Value.int IntKind.i64 2024)), (4, Operand.const (Value.int IntKind.i64 1900)), (5, Operand.const (Value.int IntKind.i64 9999)), (6, Operand.const (Value.int IntKind.i64 2023))], type := 55, pos := "l05_dates.go:166", after := #[], guard := none } : Oper) := by kernel_rfl
theorem rec1 : (opsOf Try.f40 1)[1]? = some ({ dst := some 5, op := Op.move (Operand.tmp 0), type := 50, pos := "l05_dates.go:166", after := #[], guard := none } : Oper) := by kernel_rfl
theorem rec2 : (opsOf Try.f40 1)[2]? = some ({ dst := some 6, op := Op.call { callee := Callee.value (Operand.func 44), args := #[Operand.tmp 5, Operand.const (Value.int IntKind.i64 7)], argTypes := #[50, 3] }, type := 3, pos := "l05_dates.go:166", after := #[{ on := 1, ground := Ground.data }], guard := none } : Oper) := by kernel_rfl
theorem rec3 : (opsOf Try.f40 1)[3]? = some ({ dst := some 7, op := Op.indexAddr 55 (Operand.tmp 4) (Operand.tmp 6), type := 0, pos := "l05_dates.go:166", after := #[{ on := 0, ground := Ground.data }, { on := 2, ground := Ground.data }], guard := none } : Oper) := by kernel_rfl
theorem rec4 : (opsOf Try.f40 1)[4]? = some ({ dst := some 8, op := Op.load 2 (Operand.tmp 7), type := 2, pos := "l05_dates.go:166", after := #[{ on := 3, ground := Ground.data }], guard := none } : Oper) := by kernel_rfl
theorem rec5 : (opsOf Try.f40 1)[5]? = some ({ dst := some 9, op := Op.move (Operand.tmp 0), type := 50, pos := "l05_dates.go:166", after := #[], guard := none } : Oper) := by kernel_rfl
theorem rec6 : (opsOf Try.f40 1)[6]? = some ({ dst := some 10, op := Op.call { callee := Callee.value (Operand.func 44), args := #[Operand.tmp 9, Operand.const (Value.int IntKind.i64 12)], argTypes := #[50, 3] }, type := 3, pos := "l05_dates.go:166", after := #[{ on := 5, ground := Ground.data }, { on := 2, ground := Ground.chain }], guard := none } : Oper) := by kernel_rfl
theorem rec7 : (opsOf Try.f40 1)[7]? = some ({ dst := some 11, op := Op.binOp BinOp.add 3 (Operand.const (Value.int IntKind.i64 1)) (Operand.tmp 10) 3, type := 3, pos := "l05_dates.go:166", after := #[{ on := 6, ground := Ground.data }], guard := none } : Oper) := by kernel_rfl
theorem rec8 : (opsOf Try.f40 1)[8]? = some ({ dst := some 12, op := Op.buildSlice 55 4 #[(0, Operand.const (Value.int IntKind.i64 0)), (1, Operand.const (Value.int IntKind.i64 23)), (2, Operand.const (Value.int IntKind.i64 12)), (3, Operand.const (Value.int IntKind.i64 5))], type := 55, pos := "l05_dates.go:166", after := #[], guard := none } : Oper) := by kernel_rfl
theorem rec9 : (opsOf Try.f40 1)[9]? = some ({ dst := some 13, op := Op.move (Operand.tmp 0), type := 50, pos := "l05_dates.go:166", after := #[], guard := none } : Oper) := by kernel_rfl
theorem rec10 : (opsOf Try.f40 1)[10]? = some ({ dst := some 14, op := Op.call { callee := Callee.value (Operand.func 44), args := #[Operand.tmp 13, Operand.const (Value.int IntKind.i64 4)], argTypes := #[50, 3] }, type := 3, pos := "l05_dates.go:166", after := #[{ on := 9, ground := Ground.data }, { on := 6, ground := Ground.chain }], guard := none } : Oper) := by kernel_rfl
theorem rec11 : (opsOf Try.f40 1)[11]? = some ({ dst := some 15, op := Op.indexAddr 55 (Operand.tmp 12) (Operand.tmp 14), type := 0, pos := "l05_dates.go:166", after := #[{ on := 8, ground := Ground.data }, { on := 10, ground := Ground.data }], guard := none } : Oper) := by kernel_rfl
theorem rec12 : (opsOf Try.f40 1)[12]? = some ({ dst := some 16, op := Op.load 2 (Operand.tmp 15), type := 2, pos := "l05_dates.go:166", after := #[{ on := 11, ground := Ground.data }], guard := none } : Oper) := by kernel_rfl
theorem rec13 : (opsOf Try.f40 1)[13]? = some ({ dst := some 17, op := Op.buildSlice 55 3 #[(0, Operand.const (Value.int IntKind.i64 0)), (1, Operand.const (Value.int IntKind.i64 59)), (2, Operand.const (Value.int IntKind.i64 30))], type := 55, pos := "l05_dates.go:166", after := #[], guard := none } : Oper) := by kernel_rfl
theorem rec14 : (opsOf Try.f40 1)[14]? = some ({ dst := some 18, op := Op.move (Operand.tmp 0), type := 50, pos := "l05_dates.go:166", after := #[], guard := none } : Oper) := by kernel_rfl
theorem rec15 : (opsOf Try.f40 1)[15]? = some ({ dst := some 19, op := Op.call { callee := Callee.value (Operand.func 44), args := #[Operand.tmp 18, Operand.const (Value.int IntKind.i64 3)], argTypes := #[50, 3] }, type := 3, pos := "l05_dates.go:166", after := #[{ on := 14, ground := Ground.data }, { on := 10, ground := Ground.chain }], guard := none } : Oper) := by kernel_rfl
theorem rec16 : (opsOf Try.f40 1)[16]? = some ({ dst := some 20, op := Op.indexAddr 55 (Operand.tmp 17) (Operand.tmp 19), type := 0, pos := "l05_dates.go:166", after := #[{ on := 13, ground := Ground.data }, { on := 15, ground := Ground.data }], guard := none } : Oper) := by kernel_rfl
theorem rec17 : (opsOf Try.f40 1)[17]? = some ({ dst := some 21, op := Op.load 2 (Operand.tmp 20), type := 2, pos := "l05_dates.go:166", after := #[{ on := 16, ground := Ground.data }], guard := none } : Oper) := by kernel_rfl
theorem rec18 : (opsOf Try.f40 1)[18]? = some ({ dst := some 22, op := Op.move (Operand.tmp 0), type := 50, pos := "l05_dates.go:166", after := #[], guard := none } : Oper) := by kernel_rfl
theorem rec19 : (opsOf Try.f40 1)[19]? = some ({ dst := some 23, op := Op.call { callee := Callee.value (Operand.func 44), args := #[Operand.tmp 22, Operand.const (Value.int IntKind.i64 60)], argTypes := #[50, 3] }, type := 3, pos := "l05_dates.go:166", after := #[{ on := 18, ground := Ground.data }, { on := 15, ground := Ground.chain }], guard := none } : Oper) := by kernel_rfl
theorem rec20 : (opsOf Try.f40 1)[20]? = some ({ dst := some 24, op := Op.build 29 #[(0, Operand.tmp 8), (1, Operand.tmp 11), (3, Operand.tmp 16), (4, Operand.tmp 21), (5, Operand.tmp 23)], type := 29, pos := "l05_dates.go:166", after := #[{ on := 4, ground := Ground.data }, { on := 7, ground := Ground.data }, { on := 12, ground := Ground.data }, { on := 17, ground := Ground.data }, { on := 19, ground := Ground.data }], guard := none } : Oper) := by kernel_rfl
theorem rec21 : (opsOf Try.f40 1)[21]? = some ({ dst := some 3, op := Op.alloc 29, type := 0, pos := "l05_dates.go:166", after := #[], guard := none } : Oper) := by kernel_rfl
theorem rec22 : (opsOf Try.f40 1)[22]? = some ({ dst := none, op := Op.store 29 (Operand.tmp 3) (Operand.tmp 24), type := 0, pos := "l05_dates.go:166", after := #[{ on := 21, ground := Ground.data }, { on := 20, ground := Ground.data }, { on := 19, ground := Ground.chain }, { on := 0, ground := Ground.phase }, { on := 1, ground := Ground.phase }, { on := 2, ground := Ground.phase }, { on := 3, ground := Ground.phase }, { on := 4, ground := Ground.phase }, { on := 5, ground := Ground.phase }, { on := 6, ground := Ground.phase }, { on := 7, ground := Ground.phase }, { on := 8, ground := Ground.phase }, { on := 9, ground := Ground.phase }, { on := 10, ground := Ground.phase }, { on := 11, ground := Ground.phase }, { on := 12, ground := Ground.phase }, { on := 13, ground := Ground.phase }, { on := 14, ground := Ground.phase }, { on := 15, ground := Ground.phase }, { on := 16, ground := Ground.phase }, { on := 17, ground := Ground.phase }, { on := 18, ground := Ground.phase }, { on := 19, ground := Ground.phase }, { on := 20, ground := Ground.phase }, { on := 21, ground := Ground.phase }], guard := none } : Oper) := by kernel_rfl
theorem recs_size : (opsOf Try.f40 1).size = 23 := by kernel_rfl
theorem recs_back : ((List.range 23).all fun i => match (opsOf Try.f40 1)[i]? with | some o => o.after.all (fun e => decide (e.on < i)) | none => true) = true := by kernel_rfl
theorem recs_lt : ∀ (i : Nat) (o : Oper), (opsOf Try.f40 1)[i]? = some o → ∀ e ∈ o.after, e.on < i := by
  intro i o ho e he
  have hi : i < 23 := by have := (Array.getElem?_eq_some_iff.1 ho).1; rw [recs_size] at this; exact this
  have h := List.all_eq_true.1 recs_back i (List.mem_range.2 hi)
  rw [ho] at h
  simpa using Array.all_eq_true'.1 h e he
theorem last_all : ((List.range 22).all fun i => ({ dst := none, op := Op.store 29 (Operand.tmp 3) (Operand.tmp 24), type := 0, pos := "l05_dates.go:166", after := #[{ on := 21, ground := Ground.data }, { on := 20, ground := Ground.data }, { on := 19, ground := Ground.chain }, { on := 0, ground := Ground.phase }, { on := 1, ground := Ground.phase }, { on := 2, ground := Ground.phase }, { on := 3, ground := Ground.phase }, { on := 4, ground := Ground.phase }, { on := 5, ground := Ground.phase }, { on := 6, ground := Ground.phase }, { on := 7, ground := Ground.phase }, { on := 8, ground := Ground.phase }, { on := 9, ground := Ground.phase }, { on := 10, ground := Ground.phase }, { on := 11, ground := Ground.phase }, { on := 12, ground := Ground.phase }, { on := 13, ground := Ground.phase }, { on := 14, ground := Ground.phase }, { on := 15, ground := Ground.phase }, { on := 16, ground := Ground.phase }, { on := 17, ground := Ground.phase }, { on := 18, ground := Ground.phase }, { on := 19, ground := Ground.phase }, { on := 20, ground := Ground.phase }, { on := 21, ground := Ground.phase }], guard := none } : Oper).after.any fun e => e.on == i && Region.binds .any e) = true := by kernel_rfl
theorem recs_last : ∀ l : Array Bool, 22 ∈ Region.ready .any (opsOf Try.f40 1) l → ∀ i, i < 22 → l.getD i false = true := by
  intro l hl i hi
  obtain ⟨_, o, ho, hall⟩ := mem_ready.1 hl
  rw [rec22] at ho
  obtain rfl := Option.some.inj ho
  have h := List.all_eq_true.1 last_all i (List.mem_range.2 hi)
  obtain ⟨e, he, h2⟩ := Array.any_eq_true'.1 h
  simp only [Bool.and_eq_true, beq_iff_eq] at h2
  rw [← h2.1]
  exact hall e he h2.2
def lFin : Array Bool := #[true, true, true, true, true, true, true, true, true, true, true, true, true, true, true, true, true, true, true, true, true, true, false]
def lBeg : Array Bool := #[false, true, false, false, false, true, false, false, false, true, false, false, false, false, true, false, false, false, true, false, false, false, false]
theorem lFin_all : ∀ i, i < 22 → lFin.getD i false = true := by decide
theorem is_lFin {l : Array Bool} (hs : l.size = 23) (hn : l.getD 22 true = false) (h : ∀ i, i < 22 → l.getD i false = true) : l = lFin := by
  apply Array.ext
  · rw [hs]; rfl
  · intro i h1 h2
    by_cases hi : i < 22
    · have a := h i hi
      have b := lFin_all i hi
      unfold Array.getD at a b
      rw [dif_pos h1] at a
      rw [dif_pos h2] at b
      exact a.trans b.symm
    · obtain rfl : i = 22 := by omega
      unfold Array.getD at hn
      rw [dif_pos h1] at hn
      exact hn
section
variable {Q : Exit → Act → World → Prop}
theorem steps {w0 w : World} {g gb0 : Nat} {s : List Int} {y159 y167 y173 : List Int} {t162 t165 t170 t176 t179 p0 p1 p2 p3 p4 p5 : Int} (q0 : 0 ≤ t162) (q1 : t162 < (y159.length : Int)) (q2 : 0 ≤ t170) (q3 : t170 < (y167.length : Int)) (q4 : 0 ≤ t176) (q5 : t176 < (y173.length : Int)) (hy159 : y159 = [1, 1999, 2000, 2024, 1900, 9999, 2023]) (hy167 : y167 = [0, 23, 12, 5]) (hy173 : y173 = [0, 59, 30]) (A162 : spec_l1Rd_below.f s p0 7 = some (t162, p1)) (A165 : spec_l1Rd_below.f s p1 12 = some (t165, p2)) (A170 : spec_l1Rd_below.f s p2 4 = some (t170, p3)) (A176 : spec_l1Rd_below.f s p3 3 = some (t176, p4)) (A179 : spec_l1Rd_below.f s p4 60 = some (t179, p5)) : ∀ l a W i, Inv w0 w g gb0 s y159 y167 y173 t162 t165 t170 t176 t179 p0 p1 p2 p3 p4 p5 l a W → i < 22 → i ∈ Region.ready .any (opsOf Try.f40 1) l → ∀ K : Act → World → Prop, (∀ a' w', Inv w0 w g gb0 s y159 y167 y173 t162 t165 t170 t176 t179 p0 p1 p2 p3 p4 p5 (l.setIfInBounds i true) a' w' → K a' w') → wpOp Try.prog (opsOf Try.f40 1) Q i K a W := by
  rintro l a W i ⟨x, G, rfl, hI⟩ hi hr K hK
  obtain ⟨hun, o, ho, hall⟩ := mem_ready.1 hr
  have no : ∀ k, k < 23 → l.getD k true = false → l.getD k false = true → False := fun k hk h1 h2 => by rw [getD_both (by rw [hI.sz]; exact hk)] at h1; rw [h1] at h2; cases h2
  have hc : i = 0 ∨ i = 1 ∨ i = 2 ∨ i = 3 ∨ i = 4 ∨ i = 5 ∨ i = 6 ∨ i = 7 ∨ i = 8 ∨ i = 9 ∨ i = 10 ∨ i = 11 ∨ i = 12 ∨ i = 13 ∨ i = 14 ∨ i = 15 ∨ i = 16 ∨ i = 17 ∨ i = 18 ∨ i = 19 ∨ i = 20 ∨ i = 21 := by omega
  rcases hc with rfl | rfl | rfl | rfl | rfl | rfl | rfl | rfl | rfl | rfl | rfl | rfl | rfl | rfl | rfl | rfl | rfl | rfl | rfl | rfl | rfl | rfl
  · rw [rec0] at ho
    obtain rfl := Option.some.inj ho
    exact wpOp_step rec0 fun K' hKK => st0 hI hun  hy159 K' fun a' w' h => hKK _ _ (hK _ _ h)
  · exact (no 1 (by decide) hun hI.m1).elim
  · rw [rec2] at ho
    obtain rfl := Option.some.inj ho
    simp only [List.mem_toArray, List.mem_cons, List.not_mem_nil, or_false, forall_eq_or_imp, forall_eq] at hall
    exact wpOp_step rec2 fun K' hKK => st2 hI hun (hall (by kernel_rfl)) (A162) K' fun a' w' h => hKK _ _ (hK _ _ h)
  · rw [rec3] at ho
    obtain rfl := Option.some.inj ho
    simp only [List.mem_toArray, List.mem_cons, List.not_mem_nil, or_false, forall_eq_or_imp, forall_eq] at hall
    exact wpOp_step rec3 fun K' hKK => st3 hI hun (hall.1 (by kernel_rfl)) (hall.2 (by kernel_rfl)) q0 q1 K' fun a' w' h => hKK _ _ (hK _ _ h)
  · rw [rec4] at ho
    obtain rfl := Option.some.inj ho
    simp only [List.mem_toArray, List.mem_cons, List.not_mem_nil, or_false, forall_eq_or_imp, forall_eq] at hall
    exact wpOp_step rec4 fun K' hKK => st4 hI hun (hall (by kernel_rfl)) q0 q1 K' fun a' w' h => hKK _ _ (hK _ _ h)
  · exact (no 5 (by decide) hun hI.m5).elim
  · rw [rec6] at ho
    obtain rfl := Option.some.inj ho
    simp only [List.mem_toArray, List.mem_cons, List.not_mem_nil, or_false, forall_eq_or_imp, forall_eq] at hall
    exact wpOp_step rec6 fun K' hKK => st6 hI hun (hall.1 (by kernel_rfl)) (hall.2 (by kernel_rfl)) (A165) K' fun a' w' h => hKK _ _ (hK _ _ h)
  · rw [rec7] at ho
    obtain rfl := Option.some.inj ho
    simp only [List.mem_toArray, List.mem_cons, List.not_mem_nil, or_false, forall_eq_or_imp, forall_eq] at hall
    exact wpOp_step rec7 fun K' hKK => st7 hI hun (hall (by kernel_rfl))  K' fun a' w' h => hKK _ _ (hK _ _ h)
  · rw [rec8] at ho
    obtain rfl := Option.some.inj ho
    exact wpOp_step rec8 fun K' hKK => st8 hI hun  hy167 K' fun a' w' h => hKK _ _ (hK _ _ h)
  · exact (no 9 (by decide) hun hI.m9).elim
  · rw [rec10] at ho
    obtain rfl := Option.some.inj ho
    simp only [List.mem_toArray, List.mem_cons, List.not_mem_nil, or_false, forall_eq_or_imp, forall_eq] at hall
    exact wpOp_step rec10 fun K' hKK => st10 hI hun (hall.1 (by kernel_rfl)) (hall.2 (by kernel_rfl)) (A170) K' fun a' w' h => hKK _ _ (hK _ _ h)
  · rw [rec11] at ho
    obtain rfl := Option.some.inj ho
    simp only [List.mem_toArray, List.mem_cons, List.not_mem_nil, or_false, forall_eq_or_imp, forall_eq] at hall
    exact wpOp_step rec11 fun K' hKK => st11 hI hun (hall.1 (by kernel_rfl)) (hall.2 (by kernel_rfl)) q2 q3 K' fun a' w' h => hKK _ _ (hK _ _ h)
  · rw [rec12] at ho
    obtain rfl := Option.some.inj ho
    simp only [List.mem_toArray, List.mem_cons, List.not_mem_nil, or_false, forall_eq_or_imp, forall_eq] at hall
    exact wpOp_step rec12 fun K' hKK => st12 hI hun (hall (by kernel_rfl)) q2 q3 K' fun a' w' h => hKK _ _ (hK _ _ h)
  · rw [rec13] at ho
    obtain rfl := Option.some.inj ho
    exact wpOp_step rec13 fun K' hKK => st13 hI hun  hy173 K' fun a' w' h => hKK _ _ (hK _ _ h)
  · exact (no 14 (by decide) hun hI.m14).elim
  · rw [rec15] at ho
    obtain rfl := Option.some.inj ho
    simp only [List.mem_toArray, List.mem_cons, List.not_mem_nil, or_false, forall_eq_or_imp, forall_eq] at hall
    exact wpOp_step rec15 fun K' hKK => st15 hI hun (hall.1 (by kernel_rfl)) (hall.2 (by kernel_rfl)) (A176) K' fun a' w' h => hKK _ _ (hK _ _ h)
  · rw [rec16] at ho
    obtain rfl := Option.some.inj ho
    simp only [List.mem_toArray, List.mem_cons, List.not_mem_nil, or_false, forall_eq_or_imp, forall_eq] at hall
    exact wpOp_step rec16 fun K' hKK => st16 hI hun (hall.1 (by kernel_rfl)) (hall.2 (by kernel_rfl)) q4 q5 K' fun a' w' h => hKK _ _ (hK _ _ h)
  · rw [rec17] at ho
    obtain rfl := Option.some.inj ho
    simp only [List.mem_toArray, List.mem_cons, List.not_mem_nil, or_false, forall_eq_or_imp, forall_eq] at hall
    exact wpOp_step rec17 fun K' hKK => st17 hI hun (hall (by kernel_rfl)) q4 q5 K' fun a' w' h => hKK _ _ (hK _ _ h)
  · exact (no 18 (by decide) hun hI.m18).elim
  · rw [rec19] at ho
    obtain rfl := Option.some.inj ho
    simp only [List.mem_toArray, List.mem_cons, List.not_mem_nil, or_false, forall_eq_or_imp, forall_eq] at hall
    exact wpOp_step rec19 fun K' hKK => st19 hI hun (hall.1 (by kernel_rfl)) (hall.2 (by kernel_rfl)) (A179) K' fun a' w' h => hKK _ _ (hK _ _ h)
  · rw [rec20] at ho
    obtain rfl := Option.some.inj ho
    simp only [List.mem_toArray, List.mem_cons, List.not_mem_nil, or_false, forall_eq_or_imp, forall_eq] at hall
    exact wpOp_step rec20 fun K' hKK => st20 hI hun (hall.1 (by kernel_rfl)) (hall.2.1 (by kernel_rfl)) (hall.2.2.1 (by kernel_rfl)) (hall.2.2.2.1 (by kernel_rfl)) (hall.2.2.2.2 (by kernel_rfl))  K' fun a' w' h => hKK _ _ (hK _ _ h)
  · rw [rec21] at ho
    obtain rfl := Option.some.inj ho
    exact wpOp_step rec21 fun K' hKK => st21 hI hun   K' fun a' w' h => hKK _ _ (hK _ _ h)
theorem date_any {ops : Array Oper} (hops : (opsOf Try.f40 1) = ops) {w0 w : World} {g gb0 : Nat} {s : List Int} {y159 y167 y173 : List Int} {t162 t165 t170 t176 t179 p0 p1 p2 p3 p4 p5 : Int} {W : World} (hw : w0.heap.size ≤ w.heap.size) (hbk : W.heap[gb0]? = some (.cells #[.int .i64 0, .int .i64 0, .int .i64 0, .int .i64 0, .int .i64 0, .int .i64 0, .bool false, .int .i64 0] 29 (0, 0))) (hne : gb0 ≠ g) (hi : IsS58 w0 W g s p0) (hk : KeepBut w W g none) (hb : Below w0.heap.size w0 W) (q0 : 0 ≤ t162) (q1 : t162 < (y159.length : Int)) (q2 : 0 ≤ t170) (q3 : t170 < (y167.length : Int)) (q4 : 0 ≤ t176) (q5 : t176 < (y173.length : Int)) (hy159 : y159 = [1, 1999, 2000, 2024, 1900, 9999, 2023]) (hy167 : y167 = [0, 23, 12, 5]) (hy173 : y173 = [0, 59, 30]) (A162 : spec_l1Rd_below.f s p0 7 = some (t162, p1)) (A165 : spec_l1Rd_below.f s p1 12 = some (t165, p2)) (A170 : spec_l1Rd_below.f s p2 4 = some (t170, p3)) (A176 : spec_l1Rd_below.f s p3 3 = some (t176, p4)) (A179 : spec_l1Rd_below.f s p4 60 = some (t179, p5))
    (hcont : ∀ (m : Nat) (s_ : Value × Addr × Value × Addr × Value × Addr × Nat) (w' : World), ((Kd.R (Kd.int .i64) 2 w' w.heap.size (fun k_ => some k_ ≠ (s_.2.2.1 : Value).ownBlock ∧ some k_ ≠ (s_.2.2.2.2.1 : Value).ownBlock) s_.1 y159) ∧ (Kd.R (Kd.int .i64) 2 w' w.heap.size (fun k_ => some k_ ≠ (s_.1 : Value).ownBlock ∧ some k_ ≠ (s_.2.2.2.2.1 : Value).ownBlock) s_.2.2.1 y167) ∧ (Kd.R (Kd.int .i64) 2 w' w.heap.size (fun k_ => some k_ ≠ (s_.1 : Value).ownBlock ∧ some k_ ≠ (s_.2.2.1 : Value).ownBlock) s_.2.2.2.2.1 y173) ∧ (∃ c_, (s_.1 : Value) = .slice (some s_.2.1) y159.length c_) ∧ (∃ c_, (s_.2.2.1 : Value) = .slice (some s_.2.2.2.1) y167.length c_) ∧ (∃ c_, (s_.2.2.2.2.1 : Value) = .slice (some s_.2.2.2.2.2.1) y173.length c_) ∧ (w'.heap[gb0]? = some (.cells #[.int .i64 0, .int .i64 0, .int .i64 0, .int .i64 0, .int .i64 0, .int .i64 0, .bool false, .int .i64 0] 29 (0, 0))) ∧ (w'.heap[s_.2.2.2.2.2.2]? = some (.cells #[.int .i64 0, .int .i64 0, .int .i64 0, .int .i64 0, .int .i64 0, .int .i64 0, .bool false, .int .i64 0] 29 (0, 0))) ∧ (w.heap.size ≤ s_.2.2.2.2.2.2) ∧ (w0.heap.size ≤ s_.2.2.2.2.2.2) ∧ (g ≠ s_.2.2.2.2.2.2) ∧ (s_.2.2.2.2.2.2 ≠ g) ∧ (gb0 ≠ s_.2.2.2.2.2.2) ∧ (s_.2.2.2.2.2.2 ≠ gb0) ∧ (IsS58 w0 w' g s p5) ∧ (KeepBut w w' g none) ∧ (Below w0.heap.size w0 w')) → wpAnyLast Try.prog .any ops Q (fun _ => True) [] (m + 1) lFin (actX g gb0 ⟨.pointer (some ⟨s_.2.2.2.2.2.2, 0, none⟩), s_.1, .int .i64 t162, .pointer (some (s_.2.1.add (t162).toNat)), .int .i64 (rd y159 t162), .int .i64 t165, .int .i64 (wrap64 (1 + t165)), s_.2.2.1, .int .i64 t170, .pointer (some (s_.2.2.2.1.add (t170).toNat)), .int .i64 (rd y167 t170), s_.2.2.2.2.1, .int .i64 t176, .pointer (some (s_.2.2.2.2.2.1.add (t176).toNat)), .int .i64 (rd y173 t176), .int .i64 t179, .agg #[.int .i64 (rd y159 t162), .int .i64 (wrap64 (1 + t165)), .int .i64 0, .int .i64 (rd y167 t170), .int .i64 (rd y173 t176), .int .i64 t179, .bool false, .int .i64 0]⟩) w') :
    wpAnyLast Try.prog .any ops Q (fun _ => True) [] 18 lBeg (actX g gb0 ⟨undef, undef, undef, undef, undef, undef, undef, undef, undef, undef, undef, undef, undef, undef, undef, undef, undef⟩) W := by
  subst hops
  refine any_order (Inv w0 w g gb0 s y159 y167 y173 t162 t165 t170 t176 t179 p0 p1 p2 p3 p4 p5) 22 recs_size recs_lt (fun l a W ⟨x, G, _, h⟩ => ⟨h.sz, h.last⟩) recs_last (steps q0 q1 q2 q3 q4 q5 hy159 hy167 hy173 A162 A165 A170 A176 A179) ?_ 18 lBeg _ W ⟨⟨undef, undef, undef, undef, undef, undef, undef, undef, undef, undef, undef, undef, undef, undef, undef, undef, undef⟩, ⟨p0, .slice none 0 0, .slice none 0 0, .slice none 0 0, [], [], [], gb0⟩, rfl, ?_⟩ (by decide)
  · rintro m l a W' ⟨x, G, rfl, h⟩ hall
    obtain rfl := is_lFin h.sz h.last hall
    have f0 := h.c0 (hall 0 (by decide))
    have f2 := h.c2 (hall 2 (by decide))
    have f3 := h.c3 (hall 3 (by decide))
    have f4 := h.c4 (hall 4 (by decide))
    have f6 := h.c6 (hall 6 (by decide))
    have f7 := h.c7 (hall 7 (by decide))
    have f8 := h.c8 (hall 8 (by decide))
    have f10 := h.c10 (hall 10 (by decide))
    have f11 := h.c11 (hall 11 (by decide))
    have f12 := h.c12 (hall 12 (by decide))
    have f13 := h.c13 (hall 13 (by decide))
    have f15 := h.c15 (hall 15 (by decide))
    have f16 := h.c16 (hall 16 (by decide))
    have f17 := h.c17 (hall 17 (by decide))
    have f19 := h.c19 (hall 19 (by decide))
    have f20 := h.c20 (hall 20 (by decide))
    have f21 := h.c21 (hall 21 (by decide))
    obtain ⟨f0a, f0b⟩ := f0
    obtain ⟨f8a, f8b⟩ := f8
    obtain ⟨f13a, f13b⟩ := f13
    obtain ⟨ad4, c4, g4, f3b⟩ := f3
    obtain ⟨ad12, c12, g12, f11b⟩ := f11
    obtain ⟨ad17, c17, g17, f16b⟩ := f16
    obtain ⟨f21a, f21b, f21c⟩ := f21
    obtain ⟨gp, gv4, gv12, gv17, gy4, gy12, gy17, ggb⟩ := G
    obtain ⟨x3, x4, x6, x7, x8, x10, x11, x12, x14, x15, x16, x17, x19, x20, x21, x23, x24⟩ := x
    have hpp : gp = p5 := by
      have := h.pp
      rw [hall 19 (by decide)] at this
      simpa [pOf] using this
    have wf := h.wf
    simp only at f0a f0b f8a f8b f13a f13b g4 g12 g17 f3b f11b f16b f2 f4 f6 f7 f10 f12 f15 f17 f19 f20 f21a f21b f21c hpp
    subst f0a f0b f8a f8b f13a f13b f3b f11b f16b f2 f4 f6 f7 f10 f12 f15 f17 f19 f20 f21a hpp
    exact hcont m (x4, ad4, x12, ad12, x17, ad17, ggb) W' ⟨wf.h4, wf.h12, wf.h17, ⟨_, g4⟩, ⟨_, g12⟩, ⟨_, g17⟩, wf.bk, wf.bk2, f21b, Nat.le_trans hw f21b, fun e => wf.ne e.symm, wf.ne, f21c, fun e => f21c e.symm, wf.hi, wf.hk, wf.hb⟩
  · exact {
      sz := rfl, last := rfl, m1 := rfl, m5 := rfl, m9 := rfl, m14 := rfl, m18 := rfl,
      wf := { h4 := Kd.R_nil _ _ _ _ _, h12 := Kd.R_nil _ _ _ _ _, h17 := Kd.R_nil _ _ _ _ _, bk := hbk, bk2 := hbk, ne0 := hne, ne := hne, hi := hi, hk := hk, hb := hb, hw := hw },
      pp := rfl,
      cl3 := fun h => absurd h (by decide), cl11 := fun h => absurd h (by decide), cl16 := fun h => absurd h (by decide), cl6 := fun h => absurd h (by decide), cl10 := fun h => absurd h (by decide), cl15 := fun h => absurd h (by decide), cl19 := fun h => absurd h (by decide),
      c0 := fun h => absurd h (by decide), c2 := fun h => absurd h (by decide), c3 := fun h => absurd h (by decide), c4 := fun h => absurd h (by decide), c6 := fun h => absurd h (by decide), c7 := fun h => absurd h (by decide), c8 := fun h => absurd h (by decide), c10 := fun h => absurd h (by decide), c11 := fun h => absurd h (by decide), c12 := fun h => absurd h (by decide), c13 := fun h => absurd h (by decide), c15 := fun h => absurd h (by decide), c16 := fun h => absurd h (by decide), c17 := fun h => absurd h (by decide), c19 := fun h => absurd h (by decide), c20 := fun h => absurd h (by decide), c21 := fun h => absurd h (by decide) }
end
end Go.Proofs.Ytdfopjmokbcnlaa.VD
