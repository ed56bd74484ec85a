/- Texts of characters of documents: both sides come to the same. -/
import Derived.Test.YtbhklkpjjpkblaaDoorPEx1
import Derived.Test.YtbhklkpjjpkblaaDoorPEx2
import Derived.Test.YtbhklkpjjpkblaaDoorPEx3
import Derived.Test.YtbhklkpjjpkblaaDoorEPBase
import Derived.Test.YtbhklkpjjpkblaaDoorEPIn
import Derived.Test.YtbhklkpjjpkblaaDoorEPRunes
namespace Go.Proofs.YtbhklkpjjpkblaaDoor.PE
open Go.RowKit Go.Proofs.YtbhklkpjjpkblaaDoorW.PrintWords Go.Proofs.YtbhklkpjjpkblaaDoorW.PrintMore
set_option linter.unusedVariables false
set_option linter.unusedSimpArgs false
def charB (r : Int) : Bool := decide (r = 9 ∨ r = 10 ∨ r = 13 ∨ (32 ≤ r ∧ r ≤ 55295) ∨ (57344 ≤ r ∧ r ≤ 65533) ∨ (65536 ≤ r ∧ r ≤ 1114111))
theorem spec_CharOk_eq (r : Int) : spec_CharOk.f r = some (charB r) := by
  unfold spec_CharOk.f charB
  simp only [spec_l1In_eq, Option.bind_some, inR]
  by_cases c1 : r = 9
  · simp [c1]
  by_cases c2 : r = 10
  · simp [c2]
  by_cases c3 : r = 13
  · simp [c3]
  by_cases c4 : 32 ≤ r ∧ r ≤ 55295
  · simp [c1, c2, c3, c4]
  by_cases c5 : 57344 ≤ r ∧ r ≤ 65533
  · simp [c1, c2, c3, c4, c5]
  · simp [c1, c2, c3, c4, c5]
theorem impl_CharOk_eq (r : Int) : impl_CharOk.f r = some (charB r) := by
  unfold impl_CharOk.f charB
  simp only [impl_in_eq, Option.bind_some, inR]
  by_cases c1 : r = 9
  · simp [c1]
  by_cases c2 : r = 10
  · simp [c2]
  by_cases c3 : r = 13
  · simp [c3]
  by_cases c4 : 32 ≤ r ∧ r ≤ 55295
  · simp [c1, c2, c3, c4]
  by_cases c5 : 57344 ≤ r ∧ r ≤ 65533
  · simp [c1, c2, c3, c4, c5]
  · simp [c1, c2, c3, c4, c5]
def textB (s : ByteArray) : Bool := (runesOf s).2 && (runesOf s).1.all charB
theorem spec_Text_l0_ev (l : List Int) (hl : l.length ≤ 1000000) : ∀ d n, n + d = l.length → Ev (fun k => spec_l1Text.l0 k l (n : Int)) ((l.drop n).all charB) := by
  intro d
  induction d with
  | zero =>
    intro n hn
    rw [List.drop_eq_nil_of_le (by omega)]
    refine Ev.later fun k => ?_
    simp only [spec_l1Text.l0]
    rw [if_neg (cast_nlt (by omega))]
    rfl
  | succ d ih =>
    intro n hn
    rw [list_drop l n (by omega), List.all_cons]
    cases c : charB (rd l (n : Int)) with
    | true =>
      rw [Bool.true_and]
      refine Ev.step (fun k => ?_) (ih (n + 1) (by omega))
      simp only [spec_l1Text.l0]
      rw [if_pos (cast_lt (by omega)), if_pos (by omega), spec_CharOk_eq, c, Option.bind_some, if_pos rfl, wrap_succ (n := l.length) (by omega) (cast_lt (by omega)) (by omega)]
      rfl
    | false =>
      rw [Bool.false_and]
      refine Ev.later fun k => ?_
      simp only [spec_l1Text.l0]
      rw [if_pos (cast_lt (by omega)), if_pos (by omega), spec_CharOk_eq, c, Option.bind_some, if_neg (by decide)]
theorem spec_l1Text_ev (s : ByteArray) : Ev (fun k => spec_l1Text.f k s) (textB s) := by
  unfold spec_l1Text.f textB
  refine Ev.bind (spec_Runes_ev s) ?_
  have hl := runesOf_length s
  cases (runesOf s).2 with
  | false => simp only [Bool.false_eq_true, if_false, Bool.false_and]; exact Ev.now _
  | true =>
    simp only [if_true, Bool.true_and]
    exact spec_Text_l0_ev (runesOf s).1 (by omega) (runesOf s).1.length 0 (by omega)
theorem impl_Plain_l0_ev (l : List Int) (hl : l.length ≤ 1000000) : ∀ d n b, n + d = l.length → Ev (fun k => impl_isPlain.l0 k b l (l.length : Int) (n : Int)) (b && (l.drop n).all charB) := by
  intro d
  induction d with
  | zero =>
    intro n b hn
    rw [List.drop_eq_nil_of_le (by omega)]
    refine Ev.later fun k => ?_
    simp only [impl_isPlain.l0]
    rw [if_neg (cast_nlt (by omega))]
    simp
  | succ d ih =>
    intro n b hn
    rw [list_drop l n (by omega), List.all_cons]
    cases b with
    | true =>
      rw [Bool.true_and]
      refine Ev.step (fun k => ?_) (ih (n + 1) (charB (rd l (n : Int))) (by omega))
      simp only [impl_isPlain.l0]
      rw [if_pos (cast_lt (by omega)), if_pos (by omega), if_pos (cast_lt (by omega)), if_pos trivial, impl_CharOk_eq, Option.bind_some, wrap_succ (n := l.length) (by omega) (cast_lt (by omega)) (by omega)]
      rfl
    | false =>
      have h := ih (n + 1) false (by omega)
      rw [Bool.false_and] at h ⊢
      refine Ev.step (fun k => ?_) h
      simp only [impl_isPlain.l0]
      rw [if_pos (cast_lt (by omega)), if_pos (by omega), if_pos (cast_lt (by omega)), if_neg (by decide), wrap_succ (n := l.length) (by omega) (cast_lt (by omega)) (by omega)]
      rfl
theorem impl_isPlain_ev (s : ByteArray) : Ev (fun k => impl_isPlain.f k s) (textB s) := by
  unfold impl_isPlain.f textB
  simp only [impl_Runes_eq, Option.bind_some]
  have hl := runesOf_length s
  exact impl_Plain_l0_ev (runesOf s).1 (by omega) (runesOf s).1.length 0 (runesOf s).2 (by omega)
end Go.Proofs.YtbhklkpjjpkblaaDoor.PE
