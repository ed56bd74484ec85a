/- Literal of the program answers as the reference's does, for every text, and its list is its own. No condition. -/
import Derived.Test.YtomfhenoblfckaaDoorPTx5
import Derived.Test.YtomfhenoblfckaaDoorTPRunes
import Derived.Test.YtomfhenoblfckaaDoorTPLitMarks
import Derived.Test.YtomfhenoblfckaaDoorTPLit
namespace Go.Proofs.YtomfhenoblfckaaDoor.Pure
open Go.RowKit Go.Proofs.YtomfhenoblfckaaDoor.PT Go.Proofs.YtomfhenoblfckaaDoorW.PrintWords Go.Proofs.YtomfhenoblfckaaDoorW.PrintLast
set_option linter.unusedVariables false
set_option linter.unusedSimpArgs false
theorem FnExactLiteral (a : ByteArray) : ∃ k, laws_FnExactLiteral.F k a := by
  obtain ⟨k1, h1⟩ := spec_Literal_ev a
  obtain ⟨k2, h2⟩ := impl_Literal_ev a
  obtain ⟨hs, hl⟩ := litOf_small (runesOf a)
  have hw := wN_small _ hs
  obtain ⟨k3, h3⟩ := eqN_self (litOf (runesOf a)).1 (by omega) (fun x hx => by have := hs x hx; omega)
  obtain ⟨k4, h4⟩ := markN_ev (litOf (runesOf a)).1 (by omega) (by omega)
  obtain ⟨k5, h5⟩ := heldN_ev (litOf (runesOf a)).1 (by omega) (by omega)
  exact ⟨k1 + k2 + k3 + k4 + k5, .inr ⟨(litOf (runesOf a)).1, (litOf (runesOf a)).2, 1 + (wN (litOf (runesOf a)).1 : Int), mN 1 (litOf (runesOf a)).1, h1 _ (by omega), h2 _ (by omega), h3 _ (by omega), h4 _ (by omega), h5 _ (by omega), by omega⟩⟩
end Go.Proofs.YtomfhenoblfckaaDoor.Pure
