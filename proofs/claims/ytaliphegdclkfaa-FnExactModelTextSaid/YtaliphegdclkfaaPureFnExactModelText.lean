/- ModelText of the program answers as the reference's does, for every list of particles, and leaves its list as it was. No condition. -/
import Derived.Test.YtaliphegdclkfaaPMx0
import Derived.Test.YtaliphegdclkfaaPMx1
import Derived.Test.YtaliphegdclkfaaPMx2
import Derived.Test.YtaliphegdclkfaaPMx9
import Derived.Test.YtaliphegdclkfaaMPParts
import Derived.Test.YtaliphegdclkfaaMPPartsI
import Derived.Test.YtaliphegdclkfaaMPPartsC
import Derived.Test.YtaliphegdclkfaaMPModelText
import Derived.Test.YtaliphegdclkfaaMPModelTextI
namespace Go.Proofs.Ytaliphegdclkfaa.Pure
open Go.RowKit Go.Proofs.Ytaliphegdclkfaa.PM Go.Proofs.YtaliphegdclkfaaW.PrintWords Go.Proofs.YtaliphegdclkfaaW.PrintLast
set_option linter.unusedVariables false
set_option linter.unusedSimpArgs false
theorem FnExactModelText : laws_FnExactModelText.Pure := by
  intro l hl hw
  refine Ev.rounds (r := true) ?_
  unfold laws_FnExactModelText.f
  obtain ⟨t, ht, hsm⟩ := szPNodeS_ev l (by omega) (fun y hy => by have := hw y hy; exact ⟨this.2.1, by have := this.2.2.1; omega⟩)
  refine Ev.bind ht ?_
  by_cases c : t < 0
  · simp only [c, if_true]
    exact Ev.now _
  simp only [c, if_false]
  obtain ⟨hlen, hs⟩ := hsm (by omega)
  have hk : ∀ j : Nat, (rd_T44 (l.map cvN) (j : Int)).f2.length ≤ 140737488351232 := fun j => by have := (rd_small l hs j).2; omega
  have hn : ∀ j : Nat, (rd_T44 (l.map cvN) (j : Int)).f1.size ≤ 140737488351232 := fun j => by have := (rd_small l hs j).1; omega
  have fin : Ev (fun k => (laws_toPNodeS.f k l).bind fun t231 => ((laws_eqPNodeS.f k (l.map cvN) t231).bind fun t234 => (if t234 = true then (some true) else (some false)))) true := by
    refine Ev.bind (toPNodeS_ev l hlen hs) (Ev.bind (eqPNodeS_self _ (by rw [List.length_map]; exact hlen) (fun y hy => ?_)) ?_)
    · obtain ⟨x, hx, rfl⟩ := List.mem_map.mp hy
      exact (hs x hx).2
    · simp only [if_true]
      exact Ev.now _
  by_cases hp : partOk (l.map cvN)
  · refine Ev.bind (toPNodeS_ev l hlen hs) (Ev.bind (spec_ModelText_ev _ hk hn hp) (Ev.bind (toPNodeS_ev l hlen hs) (Ev.bind (impl_ModelText_ev _ hk hn hp) ?_)))
    simp only [if_true]
    exact fin
  · refine Ev.bind (toPNodeS_ev l hlen hs) (Ev.bind (spec_ModelText_no _ hk hn hp) (Ev.bind (toPNodeS_ev l hlen hs) (Ev.bind (impl_ModelText_no _ hk hn hp) ?_)))
    simp only [if_true]
    exact fin
end Go.Proofs.Ytaliphegdclkfaa.Pure
