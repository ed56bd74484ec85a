/- Words beside the printed ones: a text made bytes and appended at once. -/
import Derived.Test.YtaliphegdclkfaaWMore
import Derived.Lib.ConvBytes
namespace Go.Proofs.YtaliphegdclkfaaW.WordsB
open Go.RowKit Go.Proofs.YtaliphegdclkfaaW.PrintWords
/-- A cell of the same block, at another place. -/
theorem cell_off {W : World} {g i j : Nat} (h : i ≠ j) (u : Value) : (W.setCell ⟨g, i, none⟩ u).cell? ⟨g, j, none⟩ = W.cell? ⟨g, j, none⟩ := World.cell?_setCell_other _ _ _ _ (fun e => h (by injection e))
/-- What was put at a place is read there. -/
theorem rdOf_set_eq {α : Type} (d : α) (xs : List α) (i : Int) {v : α} (h0 : 0 ≤ i) (h : i < (xs.length : Int)) : rdOf d (xs.set i.toNat v) i = v := by
  unfold rdOf
  simp [List.getD_eq_getElem?_getD, show i.toNat < xs.length by omega]
/-- A place before another one is another place. -/
theorem idx_ne {x a : Int} (hx : (0 ≤ x) = True) (ha : (0 ≤ a) = True) (h : (a == wrap64 (x - 1)) = true) : x.toNat ≠ a.toNat := by
  have e := eq_of_beq h
  have h1 := of_eq_true hx
  have h2 := of_eq_true ha
  unfold wrap64 at e
  omega
theorem grown_after {w w1 w2 : World} {row : Option Nat} (hb : Below w.heap.size w w1) (hg : w1.grownBy w2 row) : w.grownBy w2 row :=
  (grown_of_below hb row).trans hg
section
variable {P : Program} {ops : Array Oper} {rest : List Oper} {o1 o2 : Oper} {a : Act} {Q : Exit → Act → World → Prop}
theorem append_conv_str {w0 W : World} (base : Nat) (hg1 : o1.guard = none) (hg2 : o2.guard = none) {N : Tmp} (_hd : o1.dst = some N) (src t e : TypeId) (y0 s : Operand)
    (ho1 : o1.op = .convert src t y0) (ho2 : o2.op = .call { callee := .builtin .append, args := #[s, .tmp N], argTypes := #[t, t] })
    {u : TypeDesc} (hs : P.underlying src = some u) (ht : P.underlying t = some (.slice e)) (he : P.underlying e = some (.int .u8)) (hinfo : (P.info? e).map (fun i => (i.zero, i.size, i.bytes)) = some (some (.int .u8 0), 1, 1))
    (v : Value) (xs : List Int) (y : ByteArray) (hy : a.eval y0 = .string y) (hsv : ∀ cv, (a.put o1.dst cv).eval s = v) (hxv : ∀ cv, (a.put o1.dst cv).eval (.tmp N) = cv)
    (HO : W.ownsRow base e 1 v xs.length (nums .u8 xs)) (HB : Below base w0 W) (hbase : base ≤ W.heap.size) (hl : xs.length + y.size ≤ 140737488355328)
    (h : ∀ cv v1 w1, w1.ownsRow base e 1 v1 (xs ++ bytesOf y).length (nums .u8 (xs ++ bytesOf y)) → Below base w0 w1 → W.grownBy w1 v.ownBlock → wpList P ops Q rest ((a.put o1.dst cv).put o2.dst v1) w1) :
    wpList P ops Q (o1 :: o2 :: rest) a W := by
  obtain ⟨i0, hi, hzz⟩ := Option.map_eq_some_iff.1 hinfo
  simp only [Prod.mk.injEq] at hzz
  obtain ⟨hz0, hz1, hz2⟩ := hzz
  have hb0 : Below W.heap.size W (Lib.bytesWorld W e y) := bytes_below (Below.refl _ _) (Nat.le_refl _) e y
  refine Kd.event_run (v := .slice (some ⟨W.heap.size, 0, none⟩) y.size (grownCap W y.size 0 e)) (w1 := Lib.bytesWorld W e y) hg1 ?_ ?_
  · simp [execOp, ho1, hy, Lib.run_convert_string_bytes W src t e y hs ht he]
  · have hcell : ∀ j u, (Lib.strCells y)[j]? = some u → (Lib.bytesWorld W e y).cell? ((⟨W.heap.size, 0, none⟩ : Addr).add j) = some u := by
      intro j u hj
      have hjl : j < y.size := by
        have := (List.getElem?_eq_some_iff.1 hj).1
        simpa [Lib.strCells] using this
      rw [add_plain, Lib.bytesWorld_cell W e y j hjl]
      rw [← hj]
      have h' : j < y.data.toList.length := by rw [data_length]; exact hjl
      simp [Lib.strCells, List.getD_eq_getElem?_getD, List.getElem?_eq_getElem h']
    refine wpList_append_own (Lib.bytesWorld W e y) hg2 s (.tmp N) t ho2 base e i0 (.int .u8 0) 1 1 ht hi hz0 hz1 hz2 rfl (by decide) v xs.length (nums .u8 xs) (hsv _) (pw_own_below HO hb0)
      ⟨W.heap.size, 0, none⟩ y.size (grownCap W y.size 0 e) (Lib.strCells y) (hxv _) (by simp [Lib.strCells]) hcell ?_ (by simp only [maxLen]; omega) (by omega) (by rw [Lib.bytesWorld_size]; omega) ?_
    · intro u hu
      simp only [Lib.strCells, List.mem_map] at hu
      obtain ⟨b, _, rfl⟩ := hu
      rfl
    · intro v1 w1 hown hg _
      have hl2 : (xs ++ bytesOf y).length = xs.length + y.size := by rw [List.length_append, bytesOf_length]
      have hc : nums .u8 (xs ++ bytesOf y) = nums .u8 xs ++ Lib.strCells y := by
        rw [nums_append]
        congr 1
        simp [nums, bytesOf, Lib.strCells]
      refine h _ v1 w1 (by rw [hl2, hc]; exact hown) ?_ (grown_after hb0 hg)
      exact HB.grown (grown_after hb0 hg) hbase (own_base HO)
end
end Go.Proofs.YtaliphegdclkfaaW.WordsB
