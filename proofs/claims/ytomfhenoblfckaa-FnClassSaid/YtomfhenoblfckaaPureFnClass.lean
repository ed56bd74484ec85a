/- A character is in a class, or in the one that is turned round: at every drawn code. No condition. -/
import Derived.Test.YtomfhenoblfckaaPKx3
import Derived.Test.YtomfhenoblfckaaPKx4
import Derived.Test.YtomfhenoblfckaaPKx6
import Derived.Test.YtomfhenoblfckaaPKx9
import Derived.Test.YtomfhenoblfckaaKPRegex
import Derived.Test.YtomfhenoblfckaaKPClass
import Derived.Test.YtomfhenoblfckaaKPClassD
namespace Go.Proofs.Ytomfhenoblfckaa.Pure
open Go.RowKit Go.Proofs.Ytomfhenoblfckaa.PK Go.Proofs.YtomfhenoblfckaaW.PrintWords Go.Proofs.YtomfhenoblfckaaW.PrintLast
set_option linter.unusedVariables false
set_option linter.unusedSimpArgs false
theorem FnClass : laws_FnClass.Pure := by
  intro l _ hl hw
  refine Ev.rounds (r := true) ?_
  unfold laws_FnClass.f laws_big.f
  simp only [Option.bind_some]
  by_cases big : decide ((l.length : Int) > 1048576) = true
  · simp only [big, if_true]
    exact Ev.now _
  simp only [big, if_false]
  obtain ⟨⟨a0, a1, l2, a3, a4, a5, a6, c⟩, er, hr⟩ := drawClass_ev l (Rd.start hl hw)
  simp only [] at hr
  have hx : l2.length ≤ 140737488351232 := by omega
  refine Ev.bind er (Ev.bind (impl_ClassHas_ev ⟨a0, a1, l2, a3, a4, a5, a6⟩ c hx) (Ev.bind (spec_ClassHas_ev ⟨a0, a1, l2, a3, a4, a5, a6⟩ c hx) ?_))
  simp only [bne_self_eq_false, Bool.false_eq_true, if_false]
  have same : Ev (fun k => laws_FnClass.j0 k c (classF ⟨a0, a1, l2, a3, a4, a5, a6⟩ c) true a0 a1 l2 a3 a4 a5 a6) true := by
    refine Ev.step (f := fun k => (spec_ClassHas.f k a0 a1 l2 a3 a4 a5 a6 c).bind fun t271 => some (classF ⟨a0, a1, l2, a3, a4, a5, a6⟩ c == t271)) (fun k => by simp only [laws_FnClass.j0, if_true]) (Ev.bind (spec_ClassHas_ev ⟨a0, a1, l2, a3, a4, a5, a6⟩ c hx) ?_)
    simp only [beq_self_eq_true]
    exact Ev.now _
  by_cases h2 : a0 = 2
  · simp only [h2, if_true]
    rw [← h2]
    obtain ⟨b, hb, hn⟩ := one_class ⟨a0, a1, l2, a3, a4, a5, a6⟩ h2 hx
    refine Ev.bind hb ?_
    by_cases cb : b = true
    · simp only [cb, if_true]
      by_cases c0 : c < 0
      · simp only [c0, if_true]
        exact same
      · simp only [c0, if_false]
        by_cases c1 : c > 55295
        · simp only [decide_eq_true c1]
          exact same
        · simp only [decide_eq_false c1]
          have hc : isChar c = true := by unfold isChar inR; simp; omega
          have ht := class_turn ⟨a0, a1, l2, a3, a4, a5, a6⟩ c h2 (hn cb) hc
          refine Ev.step (f := fun k => (impl_ClassHas.f k a0 (!a1) l2 a3 a4 a5 a6 c).bind fun t272 => some (t272 != classF ⟨a0, a1, l2, a3, a4, a5, a6⟩ c)) (fun k => by simp only [laws_FnClass.j0, Bool.false_eq_true, if_false]) (Ev.bind (impl_ClassHas_ev ⟨a0, !a1, l2, a3, a4, a5, a6⟩ c hx) ?_)
          simp only [] at ht
          simp only [ht]
          exact Ev.now _
    · simp only [cb, if_false]
      exact same
  · simp only [h2, if_false]
    exact same
end Go.Proofs.Ytomfhenoblfckaa.Pure
