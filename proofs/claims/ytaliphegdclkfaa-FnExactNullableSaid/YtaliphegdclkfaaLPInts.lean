import Derived.Test.YtaliphegdclkfaaPLx1
import Derived.Test.YtaliphegdclkfaaLPBase
import Derived.Test.YtaliphegdclkfaaLPIn
namespace Go.Proofs.Ytaliphegdclkfaa.PL
open Go.RowKit Go.Proofs.YtaliphegdclkfaaW.PrintWords
set_option linter.unusedVariables false
set_option linter.unusedSimpArgs false
/- Lists of whole numbers: what the laws' own small functions come to. -/
theorem toInt64S_l0_ev (l : List Int) (hl : l.length ≤ 35184372088832) : ∀ (d n : Nat) (r : List Int), n + d = l.length → r.length = d → Ev (fun k => laws_toInt64S.l0 k l (l.take n ++ r) (n : Int)) l := by
  intro d
  induction d with
  | zero =>
    intro n r hn hr
    refine Ev.later fun k => ?_
    simp only [laws_toInt64S.l0]
    rw [if_neg (cast_nlt (by omega))]
    have : r = [] := List.eq_nil_of_length_eq_zero hr
    subst this
    rw [List.append_nil, List.take_of_length_le (by omega)]
  | succ d ih =>
    intro n r hn hr
    have hlen : (l.take n ++ r).length = l.length := by rw [List.length_append, List.length_take]; omega
    refine Ev.step (f := fun k => laws_toInt64S.l0 k l (l.take (n + 1) ++ r.tail) ((n + 1 : Nat) : Int)) (fun k => ?_) (ih (n + 1) r.tail (by omega) (by rw [List.length_tail]; omega))
    simp only [laws_toInt64S.l0]
    rw [if_pos (cast_lt (by omega)), if_pos (by omega), if_pos (by rw [hlen]; exact cast_lt (by omega)), wrap_succ (n := l.length) (by omega) (cast_lt (by omega)) (by omega)]
    congr 1
    rw [Int.toNat_natCast, set_next (l.take n) r n _ 0 (by rw [List.length_take]; omega) (by omega)]
    congr 1
    rw [List.take_succ_eq_append_getElem (by omega)]
    congr 2
    unfold rd
    simp [List.getD_eq_getElem?_getD, show n < l.length by omega]
theorem toInt64S_ev (l : List Int) (hl : l.length ≤ 35184372088832) : Ev (fun k => laws_toInt64S.f k l) l := by
  unfold laws_toInt64S.f
  simp only [show (0 : Int) ≤ (l.length : Int) by omega, if_true, Int.toNat_natCast, hl]
  have := toInt64S_l0_ev l hl l.length 0 (List.replicate l.length 0) (by omega) (by simp)
  simpa using this
theorem eqInt64S_l0_ev (l : List Int) (hl : l.length ≤ 140737488355328) : ∀ (d n : Nat), n + d = l.length → Ev (fun k => laws_eqInt64S.l0 k l l (n : Int)) true := by
  intro d
  induction d with
  | zero =>
    intro n hn
    refine Ev.later fun k => ?_
    simp only [laws_eqInt64S.l0]
    rw [if_neg (cast_nlt (by omega))]
  | succ d ih =>
    intro n hn
    refine Ev.step (f := fun k => laws_eqInt64S.l0 k l l ((n + 1 : Nat) : Int)) (fun k => ?_) (ih (n + 1) (by omega))
    simp only [laws_eqInt64S.l0]
    rw [if_pos (cast_lt (by omega)), if_pos (by omega), if_pos (cast_lt (by omega)), if_pos trivial, wrap_succ (n := l.length) (by omega) (cast_lt (by omega)) (by omega)]
    rfl
theorem eqInt64S_self (l : List Int) (hl : l.length ≤ 140737488355328) : Ev (fun k => laws_eqInt64S.f k l l) true := by
  unfold laws_eqInt64S.f
  simp only [if_true]
  exact eqInt64S_l0_ev l hl l.length 0 (by omega)
end Go.Proofs.Ytaliphegdclkfaa.PL
