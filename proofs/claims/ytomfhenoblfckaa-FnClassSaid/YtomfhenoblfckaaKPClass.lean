/- What a class of characters holds: the reference's test and the program's come to the same plain one. -/
import Derived.Test.YtomfhenoblfckaaPKx0
import Derived.Test.YtomfhenoblfckaaPKx3
import Derived.Test.YtomfhenoblfckaaPKx4
import Derived.Test.YtomfhenoblfckaaKPBase
import Derived.Test.YtomfhenoblfckaaKPIn
import Derived.Test.YtomfhenoblfckaaKPChars
import Derived.Test.YtomfhenoblfckaaKPRegex
namespace Go.Proofs.Ytomfhenoblfckaa.PK
open Go.RowKit Go.Proofs.YtomfhenoblfckaaW.PrintWords Go.Proofs.YtomfhenoblfckaaW.PrintMore
set_option linter.unusedVariables false
set_option linter.unusedSimpArgs false
def hasC (l : List S68) (c : Int) : Bool := l.any fun y => inR c y.f0 y.f1
theorem hasC_cons (y : S68) (l : List S68) (c : Int) : hasC (y :: l) c = (inR c y.f0 y.f1 || hasC l c) := by simp [hasC]
noncomputable def classF (x : S41) (c : Int) : Bool := if x.f0 = 2 then (if Bof (nodeX x) = true then (if isChar c = true then (hasC x.f2 c != x.f1) else false) else false) else false
theorem spec_Class_l0_ev (x : S41) (c : Int) (hx : x.f2.length ≤ 140737488351232) : ∀ d n b, n + d = x.f2.length → Ev (fun k => spec_ClassHas.l0 k c b (n : Int) x.f0 x.f1 x.f2 x.f3 x.f4 x.f5 x.f6) ((b || hasC (x.f2.drop n) c) != x.f1) := by
  intro d
  induction d with
  | zero =>
    intro n b hn
    rw [List.drop_eq_nil_of_le (by omega)]
    refine Ev.later fun k => ?_
    simp only [spec_ClassHas.l0]
    rw [if_neg (cast_nlt (by omega))]
    simp [hasC]
  | succ d ih =>
    intro n b hn
    have hn2 : n < x.f2.length := by omega
    rw [List.drop_eq_getElem_cons hn2]
    cases b with
    | true =>
      refine Ev.step (f := fun k => spec_ClassHas.l0 k c true ((n + 1 : Nat) : Int) x.f0 x.f1 x.f2 x.f3 x.f4 x.f5 x.f6) (fun k => ?_) ?_
      · simp only [spec_ClassHas.l0, if_true]
        rw [if_pos (cast_lt hn2), wrap_succ (n := x.f2.length) (by omega) (cast_lt hn2) (by omega)]
        rfl
      · have := ih (n + 1) true (by omega)
        simpa using this
    | false =>
      refine Ev.step (f := fun k => spec_ClassHas.l0 k c (inR c x.f2[n].f0 x.f2[n].f1) ((n + 1 : Nat) : Int) x.f0 x.f1 x.f2 x.f3 x.f4 x.f5 x.f6) (fun k => ?_) ?_
      · simp only [spec_ClassHas.l0, Bool.false_eq_true, if_false]
        rw [if_pos (cast_lt hn2), if_pos (by omega), rd_get _ _ hn2, spec_l1In_eq, Option.bind_some, wrap_succ (n := x.f2.length) (by omega) (cast_lt hn2) (by omega)]
        rfl
      · rw [hasC_cons, Bool.false_or]
        exact ih (n + 1) (inR c x.f2[n].f0 x.f2[n].f1) (by omega)
theorem spec_Class_no (x : S41) (c : Int) : Ev (fun k => spec_ClassHas.j0 k c true x.f0 x.f1 x.f2 x.f3 x.f4 x.f5 x.f6) false := Ev.later fun k => by simp only [spec_ClassHas.j0, if_true]
theorem spec_ClassHas_ev (x : S41) (c : Int) (hx : x.f2.length ≤ 140737488351232) : Ev (fun k => spec_ClassHas.f k x.f0 x.f1 x.f2 x.f3 x.f4 x.f5 x.f6 c) (classF x c) := by
  unfold spec_ClassHas.f classF
  by_cases h : x.f0 = 2
  · simp only [h, if_true]
    rw [← h]
    refine Ev.bind (spec_l6Node_ev x hx) ?_
    cases Bof (nodeX x) with
    | false => simpa using spec_Class_no x c
    | true =>
      simp only [if_true]
      rw [spec_l1Char_eq]
      simp only [Option.bind_some]
      cases isChar c with
      | false => simpa using spec_Class_no x c
      | true =>
        refine Ev.step (f := fun k => spec_ClassHas.l0 k c false ((0 : Nat) : Int) x.f0 x.f1 x.f2 x.f3 x.f4 x.f5 x.f6) (fun k => by simp only [spec_ClassHas.j0, Bool.not_true, Bool.false_eq_true, if_false]; rfl) ?_
        have := spec_Class_l0_ev x c hx x.f2.length 0 false (by omega)
        simpa using this
  · simp only [h, if_false]
    exact spec_Class_no x c
theorem impl_ClassHas_ev (x : S41) (c : Int) (hx : x.f2.length ≤ 140737488351232) : Ev (fun k => impl_ClassHas.f k x.f0 x.f1 x.f2 x.f3 x.f4 x.f5 x.f6 c) (classF x c) := by
  unfold impl_ClassHas.f classF
  by_cases h : x.f0 = 2
  · simp only [h, if_true]
    rw [← h]
    refine Ev.bind (impl_fits_ev x hx) ?_
    cases hB : Bof (nodeX x) with
    | false => exact Ev.now _
    | true =>
      have hn : nodeX x := Classical.byContradiction fun h2 => by rw [Bof_false h2] at hB; cases hB
      have hl : 0 < x.f2.length := by
        rcases hn with q | q | q | q
        · have := q.1; omega
        · have := q.2.1; omega
        · have := q.1; omega
        · have := q.1; omega
      simp only [hl, if_true]
      rw [impl_isRune_eq]
      simp only [Option.bind_some]
      cases isChar c with
      | false => exact Ev.now _
      | true => exact Ev.now _
  · simp only [h, if_false]
    exact Ev.now _
end Go.Proofs.Ytomfhenoblfckaa.PK
