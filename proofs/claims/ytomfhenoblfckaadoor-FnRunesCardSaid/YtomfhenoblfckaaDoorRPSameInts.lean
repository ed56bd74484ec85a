/- Another comparison of the laws of two lists of whole numbers, at one and the same list. -/
import Derived.Test.YtomfhenoblfckaaDoorPRx3
import Derived.Test.YtomfhenoblfckaaDoorRPBase
import Derived.Test.YtomfhenoblfckaaDoorRPIn
namespace Go.Proofs.YtomfhenoblfckaaDoor.PR
open Go.RowKit Go.Proofs.YtomfhenoblfckaaDoorW.PrintWords
set_option linter.unusedVariables false
set_option linter.unusedSimpArgs false
theorem sameInts_l0_ev (l : List Int) (hl : l.length ≤ 140737488355328) : ∀ (d n : Nat), n + d = l.length → Ev (fun k => laws_sameInts.l0 k l l (n : Int)) true := by
  intro d
  induction d with
  | zero =>
    intro n hn
    refine Ev.later fun k => ?_
    simp only [laws_sameInts.l0]
    rw [if_neg (cast_nlt (by omega))]
  | succ d ih =>
    intro n hn
    refine Ev.step (f := fun k => laws_sameInts.l0 k l l ((n + 1 : Nat) : Int)) (fun k => ?_) (ih (n + 1) (by omega))
    simp only [laws_sameInts.l0]
    rw [if_pos (cast_lt (by omega)), if_pos (by omega), if_pos (cast_lt (by omega)), if_pos trivial, wrap_succ (n := l.length) (by omega) (cast_lt (by omega)) (by omega)]
    rfl
theorem sameInts_self (l : List Int) (hl : l.length ≤ 140737488355328) : Ev (fun k => laws_sameInts.f k l l) true := by
  unfold laws_sameInts.f
  simp only [if_true]
  exact sameInts_l0_ev l hl l.length 0 (by omega)
end Go.Proofs.YtomfhenoblfckaaDoor.PR
