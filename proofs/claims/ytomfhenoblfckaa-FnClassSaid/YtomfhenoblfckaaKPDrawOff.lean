/- More of the reader of drawn codes, at wide bounds. -/
import Derived.Test.YtomfhenoblfckaaPKx6
import Derived.Test.YtomfhenoblfckaaKPBase
import Derived.Test.YtomfhenoblfckaaKPIn
import Derived.Test.YtomfhenoblfckaaKPDrawB
namespace Go.Proofs.Ytomfhenoblfckaa.PK
open Go.RowKit Go.Proofs.YtomfhenoblfckaaW.PrintWords
set_option linter.unusedVariables false
set_option linter.unusedSimpArgs false
theorem once_b {b : List Int} {p : Int} (h : Rd b p) (n : Int) (hn : 1 ≤ n) : ∃ v p', spec_l1Rd_once.f b p n = some (v, p') ∧ Rd b p' := by
  obtain ⟨v, p', e, _, _, hr⟩ := below_some h n hn
  unfold spec_l1Rd_once.f
  rw [e]
  exact ⟨_, p', rfl, hr⟩
theorem word_l0 {b : List Int} : ∀ (m : Nat) (x : Int) (n : Nat) (p : Int), n + m = 8 → Rd b p → ∃ v p', Rd b p' ∧ Ev (fun k => spec_l1Rd_word.l0 k x (n : Int) b p) (v, p') := by
  intro m
  induction m with
  | zero =>
    intro x n p hn h
    exact ⟨x, p, h, Ev.later fun k => by rw [spec_l1Rd_word.l0, if_neg (by omega)]⟩
  | succ m ih =>
    intro x n p hn h
    obtain ⟨v, p', e, _, _, hr⟩ := next_some h
    obtain ⟨v', p'', hr', hev⟩ := ih (Go.bits .or .u64 (IntKind.u64.wrap (x * 256)) (IntKind.u64.wrap v)) (n + 1) p' (by omega) hr
    refine ⟨v', p'', hr', Ev.step (fun k => ?_) hev⟩
    rw [spec_l1Rd_word.l0, if_pos (by omega), e, Option.bind_some, w64 (x := (n : Int) + 1) (by omega) (by omega)]
    rfl
theorem near_ev {b : List Int} {p : Int} (h : Rd b p) (lo hi : Int) (h1 : -1000000 ≤ lo) (h2 : lo ≤ hi) (h3 : hi ≤ 1000000) : ∃ v p', Rd b p' ∧ Ev (fun k => spec_l1Rd_near.f k b p lo hi) (v, p') := by
  obtain ⟨v, p', e, v0, v1, hr⟩ := below_some h 8 (by omega)
  unfold spec_l1Rd_near.f
  rw [e]
  simp only [Option.bind_some]
  by_cases c0 : v = 0
  · simp only [c0, if_true]
    exact ⟨_, _, hr, Ev.now _⟩
  simp only [c0, if_false]
  by_cases c1 : v = 1
  · simp only [c1, if_true]
    exact ⟨_, _, hr, Ev.now _⟩
  simp only [c1, if_false]
  have c2 : ¬ hi < lo := by omega
  simp only [c2, if_false]
  obtain ⟨x, p'', hr', hev⟩ := word_l0 8 0 0 p' (by omega) hr
  have hm : ¬ IntKind.u64.wrap (wrap64 (wrap64 (hi - lo) + 1)) = 0 := by
    rw [w64 (x := hi - lo) (by omega) (by omega), w64 (x := hi - lo + 1) (by omega) (by omega)]
    simp only [IntKind.wrap, IntKind.bits, IntKind.signed]
    omega
  refine ⟨wrap64 (lo + wrap64 (Int.tmod (x / 2) (IntKind.u64.wrap (wrap64 (wrap64 (hi - lo) + 1))))), p'', hr', Ev.bind (a := (x, p'')) hev ?_⟩
  simp only [hm, if_false]
  exact Ev.now _
theorem off_ev {b : List Int} {p : Int} (h : Rd b p) (lo hi : Int) (h1 : -1000000 ≤ lo) (h2 : lo ≤ hi) (h3 : hi ≤ 1000000) : ∃ v p', Rd b p' ∧ Ev (fun k => spec_l1Rd_off.f k b p lo hi) (v, p') := by
  obtain ⟨q, p', e, hr⟩ := once_b h 24 (by omega)
  unfold spec_l1Rd_off.f
  rw [e]
  simp only [Option.bind_some]
  by_cases c : q = true
  · simp only [c, if_true]
    obtain ⟨v, p'', e2, v0, v1, hr2⟩ := below_some hr 4 (by omega)
    rw [e2]
    simp only [Option.bind_some]
    have hv : v < ((([wrap64 (lo - 1), wrap64 (hi + 1), (-9223372036854775808), 9223372036854775807] : List Int)).length : Int) := v1
    simp only [if_pos v0, if_pos hv]
    exact ⟨_, _, hr2, Ev.now _⟩
  · simp only [c, if_false]
    obtain ⟨v, p'', hr2, hev⟩ := near_ev hr lo hi h1 h2 h3
    exact ⟨v, p'', hr2, Ev.bind (a := (v, p'')) hev (Ev.now _)⟩
end Go.Proofs.Ytomfhenoblfckaa.PK
