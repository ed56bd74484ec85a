/- Short names for proofs that the printed walks ask for again and again. -/
import Derived.Test.YtbhklkpjjpkblaaGreatDoorWWords
import Derived.Test.YtbhklkpjjpkblaaGreatDoorWLast
namespace Go.Proofs.YtbhklkpjjpkblaaGreatDoorW.Short
open Go.RowKit Go.Proofs.YtbhklkpjjpkblaaGreatDoorW.PrintWords
theorem aB {w W : World} (h : Below w.heap.size w W := by repeat (first | (with_reducible first | exact HB.out | apply below_alloc | apply pw_below_drewN | apply below_drew1) | exact HB.out)) : Below w.heap.size w W := h
theorem aE {w W : World} (h : Below w.heap.size w W := by repeat (first | (with_reducible first | exact HB.out | apply below_alloc | apply pw_below_drewN | apply below_drew1 | refine below_set ?_ (Aside0.out (by assumption))) | exact HB.out)) : Below w.heap.size w W := h
theorem aG {p : Prop} (h : p := by (try simp only [List.map_toArray, List.map_cons, List.map_nil]); first | done | rfl | (simp only [List.length_drop, List.length_take]; rfl)) : p := h
theorem aD {p : Prop} [Decidable p] (h : decide p = true := by first | (with_reducible assumption) | assumption) : p := of_decide_eq_true h
theorem aR {p : Prop} (h : p := by first | rfl | (simp; done) | (simp [*]; done)) : p := h
theorem aS {p : Prop} (h : p := by first | rfl | (simp [*] <;> rfl)) : p := h
theorem aP {p q : Prop} (h : p) (k : p → q := by intro h_; (with_reducible repeat (first | refine blk_drewN ?_ _ | refine blk_drew ?_ | refine blk_alloc ?_ _ | apply Kd.R_alloc | apply Kd.R_drewN | apply Kd.R_drew)); exact h_) : q := k h
theorem d1 {w : World} {g : Nat} {o : Obj} (n : Nat) (h : w.heap[g]? = some o) : (w.drewN n).heap[g]? = some o := blk_drewN h n
theorem aZ1 {e : Ending} {w : World} {m n : Nat} : e = e ∧ ∃ k, (w.drewN m).drewN n = w.drewN k := ⟨rfl, _, World.drewN_drewN _ _ _⟩
theorem aX1 (l_ : List UInt8) : (l_ != []) = !l_.isEmpty := by cases l_ <;> rfl
theorem aX2 (l_ : List UInt8) : (l_ == []) = l_.isEmpty := by cases l_ <;> rfl
end Go.Proofs.YtbhklkpjjpkblaaGreatDoorW.Short
