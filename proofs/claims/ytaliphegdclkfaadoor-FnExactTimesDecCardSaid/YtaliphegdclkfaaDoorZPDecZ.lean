/- How much a decimal weighs. -/
import Derived.Test.YtaliphegdclkfaaDoorPZx2
import Derived.Test.YtaliphegdclkfaaDoorZPBase
namespace Go.Proofs.YtaliphegdclkfaaDoor.PZ
open Go.RowKit Go.Proofs.YtaliphegdclkfaaDoorW.PrintWords Go.Proofs.YtaliphegdclkfaaDoorW.PrintMore
set_option linter.unusedVariables false
set_option linter.unusedSimpArgs false
theorem szDec_at (neg : Bool) (s : ByteArray) (sc : Int) (left : Int) (h0 : 0 ≤ left) (h1 : left ≤ 1048576) (hs : s.size ≤ 140737488351232) : ∃ t, laws_szDec.f neg s sc left = some t ∧ t ≤ left ∧ (0 ≤ t → s.size ≤ 1048576) := by
  unfold laws_szDec.f
  rw [w64 (x := left - (s.size : Int)) (by omega) (by omega)]
  by_cases c : left - (s.size : Int) < 0
  · exact ⟨-1, by rw [if_pos c], by omega, by omega⟩
  · exact ⟨left - (s.size : Int), by rw [if_neg c], by omega, by omega⟩
end Go.Proofs.YtaliphegdclkfaaDoor.PZ
