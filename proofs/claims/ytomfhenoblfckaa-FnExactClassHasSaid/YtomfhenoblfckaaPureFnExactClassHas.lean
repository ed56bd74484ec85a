/- ClassHas of the program answers as the reference's does, for every pattern node and whole number, and leaves the node as it was. No condition. -/
import Derived.Test.YtomfhenoblfckaaPKx5
import Derived.Test.YtomfhenoblfckaaKPRegex
import Derived.Test.YtomfhenoblfckaaKPRegexA
import Derived.Test.YtomfhenoblfckaaKPClass
namespace Go.Proofs.Ytomfhenoblfckaa.Pure
open Go.RowKit Go.Proofs.Ytomfhenoblfckaa.PK Go.Proofs.YtomfhenoblfckaaW.PrintWords Go.Proofs.YtomfhenoblfckaaW.PrintLast
set_option linter.unusedVariables false
set_option linter.unusedSimpArgs false
theorem FnExactClassHas : laws_FnExactClassHas.Pure := by
  intro a0 a1 l2 a3 a4 a5 a6 c _ h2 _ _ _ _ _ _
  refine Ev.rounds (r := true) ?_
  unfold laws_FnExactClassHas.f
  obtain ⟨t, ht, hsm⟩ := szRNode_at ⟨a0, a1, l2, a3, a4, a5, a6⟩ 1048576 (by omega) (by omega) (by show l2.length ≤ _; omega)
  rw [ht]
  simp only [Option.bind_some]
  by_cases c0 : t < 0
  · simp only [c0, if_true]
    exact Ev.now _
  simp only [c0, if_false]
  have hl : l2.length ≤ 1048576 := (hsm (by omega)).2
  have hto := toRNode_ev ⟨a0, a1, l2, a3, a4, a5, a6⟩ hl
  have hl2 : (l2.map cvR).length ≤ 140737488351232 := by rw [List.length_map]; omega
  refine Ev.bind hto (Ev.bind (spec_ClassHas_ev ⟨a0, a1, l2.map cvR, a3, a4, a5, a6⟩ c hl2) (Ev.bind hto (Ev.bind (impl_ClassHas_ev ⟨a0, a1, l2.map cvR, a3, a4, a5, a6⟩ c hl2) ?_)))
  simp only [bne_self_eq_false, Bool.false_eq_true, if_false]
  refine Ev.bind hto ?_
  refine Ev.bind (a := true) ?_ ?_
  · unfold laws_eqRNode.f
    simp only [if_true, bne_self_eq_false, Bool.false_eq_true, if_false]
    refine Ev.bind (eqRangeS_self _ (by rw [List.length_map]; exact hl)) ?_
    simp only [if_true]
    exact Ev.now _
  · simp only [if_true]
    exact Ev.now _
end Go.Proofs.Ytomfhenoblfckaa.Pure
