/- Nullable of the program answers as the reference's does, for every list of particles, and leaves its list as it was. No condition. -/
import Derived.Test.YtaliphegdclkfaaPLx0
import Derived.Test.YtaliphegdclkfaaPLx11
import Derived.Test.YtaliphegdclkfaaLPParts
import Derived.Test.YtaliphegdclkfaaLPPartsI
import Derived.Test.YtaliphegdclkfaaLPPartsC
import Derived.Test.YtaliphegdclkfaaLPCnt
import Derived.Test.YtaliphegdclkfaaLPNull
namespace Go.Proofs.Ytaliphegdclkfaa.Pure
open Go.RowKit Go.Proofs.Ytaliphegdclkfaa.PL Go.Proofs.YtaliphegdclkfaaW.PrintWords Go.Proofs.YtaliphegdclkfaaW.PrintLast
set_option linter.unusedVariables false
set_option linter.unusedSimpArgs false
theorem FnExactNullable : laws_FnExactNullable.Pure := by
  intro l hl hw
  refine Ev.rounds (r := true) ?_
  unfold laws_FnExactNullable.f
  obtain ⟨t, ht, hsm⟩ := szPNodeS_ev l (by omega) (fun y hy => by have := hw y hy; exact ⟨this.2.1, by have := this.2.2.1; omega⟩)
  refine Ev.bind ht ?_
  by_cases c : t < 0
  · simp only [c, if_true]
    exact Ev.now _
  simp only [c, if_false]
  obtain ⟨hlen, hs⟩ := hsm (by omega)
  have hk : ∀ j : Nat, (rd_T44 (l.map cvN) (j : Int)).f2.length ≤ 140737488351232 := fun j => by have := (rd_small l hs j).2; omega
  have hn : ∀ j : Nat, (rd_T44 (l.map cvN) (j : Int)).f1.size ≤ 140737488351232 := fun j => by have := (rd_small l hs j).1; omega
  obtain ⟨b, h1, h2⟩ := null_both _ hk hn
  refine Ev.bind (toPNodeS_ev l hlen hs) (Ev.bind h1 (Ev.bind (toPNodeS_ev l hlen hs) (Ev.bind h2 ?_)))
  simp only [bne_self_eq_false, Bool.false_eq_true, if_false]
  refine Ev.bind (toPNodeS_ev l hlen hs) (Ev.bind (eqPNodeS_self _ (by rw [List.length_map]; exact hlen) (fun y hy => ?_)) ?_)
  · obtain ⟨x, hx, rfl⟩ := List.mem_map.mp hy
    exact (hs x hx).2
  · simp only [if_true]
    exact Ev.now _
end Go.Proofs.Ytaliphegdclkfaa.Pure
