/- Sample of the program answers as the reference's does, for every list of particles, leaves its list as it was, and its answer is its own. No condition. -/
import Derived.Test.YtaliphegdclkfaaPQx0
import Derived.Test.YtaliphegdclkfaaPQx5
import Derived.Test.YtaliphegdclkfaaPQx9
import Derived.Test.YtaliphegdclkfaaPQx11
import Derived.Test.YtaliphegdclkfaaQPParts
import Derived.Test.YtaliphegdclkfaaQPPartsI
import Derived.Test.YtaliphegdclkfaaQPPartsC
import Derived.Test.YtaliphegdclkfaaQPMarkP
import Derived.Test.YtaliphegdclkfaaQPStrs
import Derived.Test.YtaliphegdclkfaaQPSample
namespace Go.Proofs.Ytaliphegdclkfaa.Pure
open Go.RowKit Go.Proofs.Ytaliphegdclkfaa.PQ Go.Proofs.YtaliphegdclkfaaW.PrintWords Go.Proofs.YtaliphegdclkfaaW.PrintLast
set_option linter.unusedVariables false
set_option linter.unusedSimpArgs false
theorem FnExactSample : laws_FnExactSample.Pure := by
  intro l hl hw
  refine Ev.rounds (r := true) ?_
  unfold laws_FnExactSample.f
  obtain ⟨t, ht, hsm⟩ := szPNodeS_sum l (by omega) (fun y hy => by have := hw y hy; exact ⟨this.2.1, by have := this.2.2.1; omega⟩)
  refine Ev.bind ht ?_
  by_cases c : t < 0
  · simp only [c, if_true]
    exact Ev.now _
  simp only [c, if_false]
  have hsum := hsm (by omega)
  have hs := wP_small (l := l) (by omega)
  have hlen : l.length ≤ 1048576 := by omega
  have hk : ∀ j : Nat, (rd_T44 (l.map cvN) (j : Int)).f2.length ≤ 140737488351232 := fun j => by have := (rd_small l hs j).2; omega
  have hn : ∀ j : Nat, (rd_T44 (l.map cvN) (j : Int)).f1.size ≤ 140737488351232 := fun j => by have := (rd_small l hs j).1; omega
  have hto := toPNodeS_ev l hlen hs
  have heq := eqPNodeS_self (l.map cvN) (by rw [List.length_map]; exact hlen) (fun y hy => by
    obtain ⟨x, hx, rfl⟩ := List.mem_map.mp hy
    exact (hs x hx).2)
  have both : ∃ (r : List ByteArray) (q : Bool), r.length ≤ 1000 ∧ Ev (fun k => spec_Sample.f k (l.map cvN)) (r, q) ∧ Ev (fun k => impl_Sample.f k (l.map cvN)) (r, q) := by
    unfold spec_Sample.f impl_Sample.f
    have hb1 := spec_ParticleOk_ev _ hk hn
    have hb2 := impl_ParticleOk_ev _ hk hn
    by_cases hp : partOk (l.map cvN)
    · rw [Bof_true hp] at hb1 hb2
      have h1 := hp.1
      have h2 := hp.2.1
      have hr := Rs.sm (Rs.of hp) (n := (l.map cvN).length - 1) (by omega)
      refine ⟨sm (l.map cvN) ((l.map cvN).length - 1), true, by omega, Ev.bind hb1 ?_, Ev.bind hb2 ?_⟩
      · simp only [if_true]
        rw [w64 (by omega) (by omega), show (((l.map cvN).length : Int) - 1) = (((l.map cvN).length - 1 : Nat) : Int) by omega]
        exact Ev.bind (spec_short_ev _ (Rs.of hp) hk _ (by omega)) (Ev.now _)
      · simp only [if_true]
        rw [w64 (by omega) (by omega), show (((l.map cvN).length : Int) - 1) = (((l.map cvN).length - 1 : Nat) : Int) by omega]
        exact Ev.bind (impl_sample_ev _ (Rs.of hp) hk _ (by omega)) (Ev.now _)
    · rw [Bof_false hp] at hb1 hb2
      refine ⟨[], false, by simp, Ev.bind hb1 ?_, Ev.bind hb2 ?_⟩
      · simp only [Bool.false_eq_true, if_false]; exact Ev.now _
      · simp only [Bool.false_eq_true, if_false]; exact Ev.now _
  obtain ⟨r, q, hr, h1, h2⟩ := both
  obtain ⟨tm, hm, hm0⟩ := markP l (by omega)
  have he := eqStringS_self r (by omega)
  have q0 : ¬ ((r.length : Int) + 1 < 0) := by omega
  refine Ev.bind hto (Ev.bind h1 (Ev.bind hto (Ev.bind h2 (Ev.bind he ?_))))
  simp only [if_true, bne_self_eq_false]
  refine Ev.step (f := ?fa) (fun k => ?a) ?b
  case a => simp only [laws_FnExactSample.j0, Bool.false_eq_true, if_false]; rfl
  case b =>
    refine Ev.bind hto (Ev.bind heq ?_)
    simp only [if_true, hm, Option.bind_some, hm0, if_false]
    refine Ev.bind he ?_
    simp only [if_true, bne_self_eq_false]
    refine Ev.step (f := ?fc) (fun k => ?c) ?d
    case c => simp only [laws_FnExactSample.j1, Bool.false_eq_true, if_false]; rfl
    case d =>
      refine Ev.bind (markStringS_ev r (by omega)) (Ev.bind (heldStringS_ev _ (by omega)) ?_)
      simp only [q0, if_false, if_true]
      refine Ev.bind hto (Ev.bind h2 (Ev.bind he ?_))
      simp only [if_true, bne_self_eq_false]
      refine Ev.step (f := ?fe) (fun k => ?e) ?g
      case e => simp only [laws_FnExactSample.j2, Bool.false_eq_true, if_false]; rfl
      case g =>
        refine Ev.bind (heldStringS_ev _ (by omega)) ?_
        simp only [q0, if_false, if_true]
        exact Ev.now _
end Go.Proofs.Ytaliphegdclkfaa.Pure
