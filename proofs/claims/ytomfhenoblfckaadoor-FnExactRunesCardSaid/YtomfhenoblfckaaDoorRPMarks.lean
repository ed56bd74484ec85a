/- The laws' marks in a list of whole numbers. -/
import Derived.Test.YtomfhenoblfckaaDoorPRx2
import Derived.Test.YtomfhenoblfckaaDoorRPBase
import Derived.Test.YtomfhenoblfckaaDoorRPIn
namespace Go.Proofs.YtomfhenoblfckaaDoor.PR
open Go.RowKit Go.Proofs.YtomfhenoblfckaaDoorW.PrintWords
set_option linter.unusedVariables false
set_option linter.unusedSimpArgs false
def marks : Nat → List Int
  | 0 => []
  | n + 1 => marks n ++ [(n : Int) + 1]
theorem marks_length : ∀ n, (marks n).length = n
  | 0 => rfl
  | n + 1 => by rw [marks, List.length_append, marks_length n]; rfl
theorem marks_rd : ∀ (N n : Nat), n < N → rd (marks N) (n : Int) = (n : Int) + 1 := by
  intro N
  induction N with
  | zero => intro n h; omega
  | succ N ih =>
    intro n h
    have hl := marks_length N
    unfold rd at ih ⊢
    rw [marks, List.getD_eq_getElem?_getD, Int.toNat_natCast]
    by_cases e : n < N
    · rw [List.getElem?_append_left (by omega)]
      have := ih n e
      rw [List.getD_eq_getElem?_getD, Int.toNat_natCast] at this
      exact this
    · obtain rfl : n = N := by omega
      rw [List.getElem?_append_right (by omega), hl]
      simp
theorem markInt64S_l0_ev : ∀ (d n : Nat) (r : List Int), r.length = d → n + d ≤ 1000000 → Ev (fun k => laws_markInt64S.l0 k (marks n ++ r) ((n : Int) + 1) (n : Int)) (((n + d : Nat) : Int) + 1, marks (n + d)) := by
  intro d
  induction d with
  | zero =>
    intro n r hr hn
    obtain rfl : r = [] := List.length_eq_zero_iff.1 hr
    refine Ev.later fun k => ?_
    simp only [laws_markInt64S.l0]
    rw [List.append_nil, marks_length, if_neg (by omega)]
    rfl
  | succ d ih =>
    intro n r hr hn
    have hl := marks_length n
    have h := ih (n + 1) r.tail (by rw [List.length_tail]; omega) (by omega)
    rw [show n + 1 + d = n + (d + 1) by omega] at h
    refine Ev.step (f := fun k => laws_markInt64S.l0 k (marks (n + 1) ++ r.tail) (((n + 1 : Nat) : Int) + 1) ((n + 1 : Nat) : Int)) (fun k => ?_) h
    simp only [laws_markInt64S.l0]
    rw [if_pos (by rw [List.length_append]; omega), if_pos (by omega), Int.toNat_natCast, set_next (marks n) r n _ 0 hl.symm (by omega), w64 (x := (n : Int) + 1 + 1) (by omega) (by omega), w64 (x := (n : Int) + 1) (by omega) (by omega)]
    rfl
theorem markInt64S_ev (l : List Int) (h : l.length ≤ 1000000) : Ev (fun k => laws_markInt64S.f k l 1) ((l.length : Int) + 1, marks l.length) := by
  unfold laws_markInt64S.f
  have := markInt64S_l0_ev l.length 0 l rfl (by omega)
  simpa [marks] using this
theorem heldInt64S_l0_ev (N : Nat) (hN : N ≤ 1000000) : ∀ (d n : Nat), n + d = N → Ev (fun k => laws_heldInt64S.l0 k (marks N) ((n : Int) + 1) (n : Int)) ((N : Int) + 1) := by
  intro d
  induction d with
  | zero =>
    intro n hn
    refine Ev.later fun k => ?_
    simp only [laws_heldInt64S.l0]
    rw [marks_length, if_neg (by omega), show n = N by omega]
  | succ d ih =>
    intro n hn
    refine Ev.step (f := fun k => laws_heldInt64S.l0 k (marks N) (((n + 1 : Nat) : Int) + 1) ((n + 1 : Nat) : Int)) (fun k => ?_) (ih (n + 1) (by omega))
    simp only [laws_heldInt64S.l0]
    rw [marks_length, if_pos (by omega), if_pos (by omega), marks_rd N n (by omega), if_pos rfl, w64 (x := (n : Int) + 1 + 1) (by omega) (by omega), w64 (x := (n : Int) + 1) (by omega) (by omega)]
    rfl
theorem heldInt64S_ev (N : Nat) (hN : N ≤ 1000000) : Ev (fun k => laws_heldInt64S.f k (marks N) 1) ((N : Int) + 1) := by
  unfold laws_heldInt64S.f
  have := heldInt64S_l0_ev N hN N 0 (by omega)
  simpa using this
end Go.Proofs.YtomfhenoblfckaaDoor.PR
