/- A text is the bytes of its characters, and characters come back from their bytes: at every drawn code. No condition. -/
import Derived.Test.YtomfhenoblfckaaDoorPRx2
import Derived.Test.YtomfhenoblfckaaDoorPRx5
import Derived.Test.YtomfhenoblfckaaDoorRPRunes
import Derived.Test.YtomfhenoblfckaaDoorRPRunesB
import Derived.Test.YtomfhenoblfckaaDoorRPRunesD
import Derived.Test.YtomfhenoblfckaaDoorRPSameInts
import Derived.Test.YtomfhenoblfckaaDoorRPOfRunes
namespace Go.Proofs.YtomfhenoblfckaaDoor.Pure
open Go.RowKit Go.Proofs.YtomfhenoblfckaaDoor.PR Go.Proofs.YtomfhenoblfckaaDoorW.PrintWords Go.Proofs.YtomfhenoblfckaaDoorW.PrintLast
set_option linter.unusedVariables false
set_option linter.unusedSimpArgs false
theorem FnRunes : laws_FnRunes.Pure := by
  intro l hl hw
  refine Ev.rounds (r := true) ?_
  unfold laws_FnRunes.f laws_big.f
  simp only [Option.bind_some]
  by_cases big : decide ((l.length : Int) > 1048576) = true
  · simp only [big, if_true]
    exact Ev.now _
  simp only [big, if_false]
  have hrd := Rd.start hl hw
  obtain ⟨s, es, zs⟩ := drawRunes_some l hrd
  obtain ⟨m, em, zm⟩ := drawOfRunes_ev l hrd
  have hj1 : Ev (fun k => laws_FnRunes.j1 k l) true := by
    refine Ev.step (f := ?fa) (fun k => ?a) ?b
    case a => simp only [laws_FnRunes.j1]; rfl
    case b =>
      refine Ev.bind em (Ev.bind (impl_OfRunes_ev m (by omega)) (Ev.bind (spec_OfRunes_ev m (by omega)) ?_))
      simp only [impl_Runes_eq, Option.bind_some, beq_self_eq_true, if_true]
      by_cases g : (ofR m []).2 = true
      · rw [runes_back m g]
        simp only [g, if_true]
        exact Ev.bind (sameInts_self m (by omega)) (Ev.now _)
      · simp only [g, if_false]
        exact Ev.now _
  have hlen := runesOf_length s
  simp only [es, impl_Runes_eq, Option.bind_some]
  refine Ev.bind (spec_Runes_ev s) ?_
  simp only [bne_self_eq_false, Bool.false_eq_true, if_false]
  refine Ev.bind (sameInts_self _ (by omega)) ?_
  refine Ev.step (f := ?fc) (fun k => ?c) ?d
  case c => simp only [laws_FnRunes.j0, Bool.not_true, Bool.false_eq_true, if_false]; rfl
  case d =>
    by_cases g : (runesOf s).2 = true
    · simp only [g, if_true]
      have ht := runes_there s g
      refine Ev.bind (impl_OfRunes_ev _ (by omega)) ?_
      have q : ¬ (((runesOf s).1.length : Int) > (s.size : Int)) := by have := ht.2; omega
      simp only [ht.1, if_true, q, if_false]
      exact hj1
    · simp only [g, if_false]
      exact hj1
end Go.Proofs.YtomfhenoblfckaaDoor.Pure
