/- Small words beside the printed ones. -/
import Derived.Test.YtomfhenoblfckaaWWords
namespace Go.Proofs.YtomfhenoblfckaaW.WordsB
open Go.RowKit Go.Proofs.YtomfhenoblfckaaW.PrintWords
/-- A cell of the same block, at another place. -/
theorem cell_off {W : World} {g i j : Nat} (h : i ≠ j) (u : Value) : (W.setCell ⟨g, i, none⟩ u).cell? ⟨g, j, none⟩ = W.cell? ⟨g, j, none⟩ := World.cell?_setCell_other _ _ _ _ (fun e => h (by injection e))
/-- What was put at a place is read there. -/
theorem rdOf_set_eq {α : Type} (d : α) (xs : List α) (i : Int) {v : α} (h0 : 0 ≤ i) (h : i < (xs.length : Int)) : rdOf d (xs.set i.toNat v) i = v := by
  unfold rdOf
  simp [List.getD_eq_getElem?_getD, show i.toNat < xs.length by omega]
/-- A place before another one is another place. -/
theorem idx_ne {x a : Int} (hx : (0 ≤ x) = True) (ha : (0 ≤ a) = True) (h : (a == wrap64 (x - 1)) = true) : x.toNat ≠ a.toNat := by
  have e := eq_of_beq h
  have h1 := of_eq_true hx
  have h2 := of_eq_true ha
  unfold wrap64 at e
  omega
end Go.Proofs.YtomfhenoblfckaaW.WordsB
