import Derived.Test.YtdfopjmokbcnlaaPVx3
import Derived.Test.YtdfopjmokbcnlaaVPBase
namespace Go.Proofs.Ytdfopjmokbcnlaa.PV
open Go.RowKit Go.Proofs.YtdfopjmokbcnlaaW.PrintWords
set_option linter.unusedVariables false
set_option linter.unusedSimpArgs false
/- The reader of drawn codes: it always answers, and in range. -/
def Rd (b : List Int) (p : Int) : Prop := 0 ≤ p ∧ p ≤ (b.length : Int) ∧ b.length ≤ 140737488351232 ∧ ∀ x ∈ b, 0 ≤ x ∧ x ≤ 255
theorem Rd.start {l : List Int} (h1 : l.length * 1 ≤ 140737488351232) (h : ∀ x ∈ l, (Lit.int .u8 x).wf = true) : Rd l 0 := ⟨by omega, by omega, by omega, fun x hx => wf_u8 (h x hx)⟩
theorem l1Open_eq (l : List Int) : spec_l1Open.f l = some (l, 0) := rfl
theorem next_some {b : List Int} {p : Int} (h : Rd b p) : ∃ v p', spec_l1Rd_next.f b p = some (v, p') ∧ 0 ≤ v ∧ v ≤ 255 ∧ Rd b p' := by
  obtain ⟨h0, h1, h2, h3⟩ := h
  unfold spec_l1Rd_next.f
  by_cases c : p ≥ (b.length : Int)
  · exact ⟨0, p, by rw [if_pos c], by omega, by omega, h0, h1, h2, h3⟩
  · have e1 : wrap64 (p + 1) = p + 1 := w64 (by omega) (by omega)
    have e2 : wrap64 (p + 1 - 1) = p := by rw [w64 (by omega) (by omega)]; omega
    have hm := h3 _ (rd_mem b p.toNat (by omega))
    rw [show ((p.toNat : Nat) : Int) = p by omega] at hm
    refine ⟨rd b p, p + 1, ?_, hm.1, hm.2, by omega, by omega, h2, h3⟩
    rw [if_neg c, e1, e2, if_pos h0, if_pos (by omega), w64 (x := rd b p) (by omega) (by omega)]
theorem below_some {b : List Int} {p : Int} (h : Rd b p) (n : Int) (hn : 1 ≤ n) : ∃ v p', spec_l1Rd_below.f b p n = some (v, p') ∧ 0 ≤ v ∧ v < n ∧ Rd b p' := by
  unfold spec_l1Rd_below.f
  by_cases c1 : n ≤ 1
  · exact ⟨0, p, by rw [if_pos c1], by omega, by omega, h⟩
  rw [if_neg c1]
  by_cases c2 : n ≤ 256
  · obtain ⟨v, p', e, v0, v1, hr⟩ := next_some h
    refine ⟨Int.tmod v n, p', ?_, ?_, ?_, hr⟩
    · rw [if_pos c2, e, Option.bind_some, if_neg (by omega)]
    · rw [Int.tmod_eq_emod_of_nonneg v0]; exact Int.emod_nonneg _ (by omega)
    · rw [Int.tmod_eq_emod_of_nonneg v0]; exact Int.emod_lt_of_pos _ (by omega)
  · obtain ⟨v, p', e, v0, v1, hr⟩ := next_some h
    obtain ⟨v', p'', e', v0', v1', hr'⟩ := next_some hr
    have e1 : wrap64 (wrap64 (v * 256) + v') = v * 256 + v' := by rw [w64 (x := v * 256) (by omega) (by omega), w64 (by omega) (by omega)]
    refine ⟨Int.tmod (v * 256 + v') n, p'', ?_, ?_, ?_, hr'⟩
    · rw [if_neg c2, e, Option.bind_some, e', Option.bind_some, if_neg (by omega)]
      simp only [e1]
    · rw [Int.tmod_eq_emod_of_nonneg (by omega)]; exact Int.emod_nonneg _ (by omega)
    · rw [Int.tmod_eq_emod_of_nonneg (by omega)]; exact Int.emod_lt_of_pos _ (by omega)
end Go.Proofs.Ytdfopjmokbcnlaa.PV
