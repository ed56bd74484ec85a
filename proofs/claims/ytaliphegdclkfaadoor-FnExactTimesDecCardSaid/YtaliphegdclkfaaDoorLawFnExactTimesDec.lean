/- The law FnExactTimesDec answers true at every input that its row lets in, and its arguments read afterwards as before. -/
import Derived.Test.YtaliphegdclkfaaDoorRows
import Derived.Test.YtaliphegdclkfaaDoorCards
import Derived.Test.YtaliphegdclkfaaDoorTie
import Derived.Test.YtaliphegdclkfaaDoorPZx8
import Derived.Test.YtaliphegdclkfaaDoorPureFnExactTimesDec
import Derived.Test.YtaliphegdclkfaaDoorHOpen
import Derived.WalkKit
import Derived.ProofKit
import Derived.OpenShut
import Derived.ShutString
import Derived.ChangeOld
import Derived.Below
import Derived.SizedLaws
import Derived.Carry
import Derived.LaidMore
import Derived.Lay
import Derived.Stop.Joined
import Derived.SevenTiedAt
namespace Go.Proofs.YtaliphegdclkfaaDoor.fnExactTimesDec
open Go.ChangeShapes Go.WideShapes Go.ChangeAt Go.RowKit Go.Proofs.YtaliphegdclkfaaDoorW.PrintWords Go.Proofs.YtaliphegdclkfaaDoorW.Open Go.Proofs.YtaliphegdclkfaaDoor.PZ
open Go.ChangeMaps (open_string shut_string)
set_option linter.unusedVariables false
theorem opens23 : Opens Tryd.prog k23 23 WF23 := by
  intro H enc w base spare held fuel cs x h hw
  obtain ⟨hl, hs⟩ := opens_fields Tryd.underlying23 (by kernel_rfl) (by kernel_rfl) h hw
  have hl : cs.length = 3 := hl
  clear h hw
  obtain ⟨v0, n0, y0, c0, t0, g0⟩ := hs 0 _ rfl
  obtain ⟨x0, k0, w0⟩ := (opens_bool Tryd.underlying4) t0 g0
  obtain ⟨v1, n1, y1, c1, t1, g1⟩ := hs 1 _ rfl
  obtain ⟨x1, k1, w1⟩ := (opens_string Tryd.underlying9) t1 g1
  obtain ⟨v2, n2, y2, c2, t2, g2⟩ := hs 2 _ rfl
  obtain ⟨x2, k2, w2⟩ := (opens_int Tryd.underlying2) t2 g2
  have ecs : cs = [v0, v1, v2] := by
    apply List.ext_getElem?
    intro i
    rcases i with _ | _ | _ | i
    · exact c0
    · exact c1
    · exact c2
    · rw [List.getElem?_eq_none (by omega), List.getElem?_eq_none (by simp)]
  subst ecs
  exact ⟨⟨x0, x1, x2⟩, ⟨[v0], [v1, v2], rfl, k0, ⟨[v1], [v2], rfl, k1, k2⟩⟩, ⟨w1, w2⟩⟩
theorem own : ownKnob Tryd.prog.godebug = none := by kernel_rfl
theorem laidOut : laidOutB Tryd.prog = true := by kernel_rfl
set_option maxRecDepth 100000 in
theorem lifted (os : Os) (started : os.Started) (H : Type) (enc : TypeId × Value → H) :
    ReturnsInHanded {} Tryd.checked os 5 .any (fun w args => (Rows.fnExactTimesDecSpec.pre enc Tryd.prog Tryd.f5 [] false w args ∧ laidMetH Tryd.prog Rows.fnExactTimesDecRow.laid w) ∧ sizedMet enc Tryd.prog Tryd.f5 (OpenSpec.ofChange Rows.fnExactTimesDecSpec) false w args) (Rows.fnExactTimesDecSpec.post enc Tryd.prog Tryd.f5 false true false false) := by
  refine returnsInHanded_of_change_and (C := Tryd.checked) (X := fun w _ => laidMetH Tryd.prog Rows.fnExactTimesDecRow.laid w) (fun _ _ _ hh h => h.of_heap hh) own started (by kernel_rfl) Tryd.func5
    (ChangeSpec.witness_shaped (enc := enc) (C := Tryd.checked) (os := os) (X := fun w _ => laidMetH Tryd.prog Rows.fnExactTimesDecRow.laid w) false (World.laidAll Tryd.prog os Rows.fnExactTimesDecRow.laid) #[.agg #[.bool false, .string ByteArray.empty, .int .i64 0], .agg #[.bool false, .string ByteArray.empty, .int .i64 0]] 8 (World.laidAll_os _ _ _)
      (World.shaped_of_ZipB (by kernel_rfl) (by kernel_rfl)) (by kernel_rfl) (by kernel_rfl) (by kernel_rfl)
      (by rw [MakeChecks.laidMetH_plain _ _ _ (by kernel_rfl)]; exact laidMet_laidAll _ (by kernel_rfl) (by kernel_rfl))) ?_
  intro W base args ds gs before hval0 hW _ hsz0 hL hsh
  have hsz : (DataW.weightsEach Tryd.prog (Tryd.f5.params.toList ++ Rows.fnExactTimesDecSpec.plain.varTypes Tryd.prog) (ds ++ gs)).all (· ≤ reachBytes) = true := hsz0
  have hval : ∀ (j : Nat) t v, Tryd.f5.params[j]? = some t → args[j]? = some v → Value.okWide Tryd.prog W .any base t v := hval0
  have hW' := hW
  obtain ⟨p, q, hA0, hV, rfl, hfz, hnd⟩ := hW
  have hA : DataW.TrodAll enc Tryd.prog W 0 (fun _ => true) true Tryd.f5.params.toList args.toList ds p := hA0
  rw [Tryd.params5] at hA hval hsz
  obtain ⟨v0, vs0, d0, ds0, p0, q0, hargs, rfl, rfl, h0, r0⟩ := trodAll_cons hA
  obtain ⟨v1, vs1, d1, ds1, p1, q1, rfl, rfl, rfl, h1, r1⟩ := trodAll_cons r0
  obtain ⟨rfl, rfl, rfl⟩ := trodAll_nil r1
  obtain rfl : args = #[v0, v1] := by cases args; simp_all
  obtain ⟨rfl, rfl⟩ := trodVars_none hV
  have k0 := h0
  have lt0 : ∀ x ∈ p0, x.block < W.heap.size := by obtain ⟨m, hm⟩ := k0; exact DataW.trod_lt m _ _ _ hm
  have gw0 := weights_of (P := Tryd.prog) hsz (j := 0) (t := 23) (d := d0) rfl rfl
  obtain ⟨cs0, rfl, _⟩ := okWide_struct Tryd.underlying23 (hval 0 23 v0 rfl rfl)
  obtain ⟨fu0, hf0⟩ := h0
  have hf0 : DataW.trod enc Tryd.prog W 0 (fun _ => true) true fu0 23 cs0.toList = some (d0, p0) := by simpa [Value.cells] using hf0
  obtain ⟨x0, hK0, w0⟩ := opens23 hf0 gw0
  have hE0 := k23_open hK0
  obtain rfl : cs0 = #[.bool x0.f0, .string x0.f1, .int .i64 x0.f2] := by apply Array.ext'; exact hE0
  have k1 := h1
  have lt1 : ∀ x ∈ p1, x.block < W.heap.size := by obtain ⟨m, hm⟩ := k1; exact DataW.trod_lt m _ _ _ hm
  have gw1 := weights_of (P := Tryd.prog) hsz (j := 1) (t := 23) (d := d1) rfl rfl
  obtain ⟨cs1, rfl, _⟩ := okWide_struct Tryd.underlying23 (hval 1 23 v1 rfl rfl)
  obtain ⟨fu1, hf1⟩ := h1
  have hf1 : DataW.trod enc Tryd.prog W 0 (fun _ => true) true fu1 23 cs1.toList = some (d1, p1) := by simpa [Value.cells] using hf1
  obtain ⟨x1, hK1, w1⟩ := opens23 hf1 gw1
  have hE1 := k23_open hK1
  obtain rfl : cs1 = #[.bool x1.f0, .string x1.f1, .int .i64 x1.f2] := by apply Array.ext'; exact hE1
  clear hA0 hval0 hsz0 hsz
  obtain ⟨k, hp⟩ := Pure.FnExactTimesDec x0.f0 x0.f1 x0.f2 x1.f0 x1.f1 x1.f2 w0.1 w0.2 w1.1 w1.2
  refine (PZ.laws_FnExactTimesDec.calls k x0.f0 x0.f1 x0.f2 x1.f0 x1.f1 x1.f2 true W  hp).mono fun e W' ⟨he, bel0⟩ => ?_
  have bel : Below W.heap.size W W' := bel0
  subst he
  exact ⟨_, rfl, _, _, _, [], _, [], hW', trodAll_mk1 (shut_bool Tryd.underlying4 _), (trodAll_cons_mk (Below.trod laidOut (by kernel_rfl) (of_decide_eq_true (by kernel_rfl)) k0 bel lt0) (trodAll_cons_mk (Below.trod laidOut (by kernel_rfl) (of_decide_eq_true (by kernel_rfl)) k1 bel lt1) trodAll_mk0)), rfl, bel.frame _, fun h => by cases h⟩
theorem over : Rows.fnExactTimesDecRow.holds Tryd.pinned (OpenSpec.ofChange Rows.fnExactTimesDecSpec) :=
  OpenClaim.holds_of_wide 5 Tryd.f5 rfl rfl rfl rfl rfl rfl rfl ⟨rfl, rfl, rfl, rfl, rfl⟩ rfl rfl rfl rfl rfl (by kernel_rfl) Tryd.func5 (by kernel_rfl)
    (of_decide_eq_true (by kernel_rfl)) (by unfold Func.isWrapper; first | (rw [if_pos (by decide +kernel)]; kernel_rfl) | (rw [if_neg (by decide +kernel)]; exact ⟨rfl, rfl⟩))
    (fun os started H enc _ => lifted os started H enc)
theorem proved : Rows.FnExactTimesDecCardSaid :=
  Claim7.holds_tied_plain_at .later [] [.data, .pinned] true (true, "3b88c51e9b27218c0288d279150e66e59ad6d6220fd98bc30abec4f9226d27b8") false over (fun _ h => by cases h) (by kernel_rfl) (fun _ h => by cases h) fnExactTimesDec_row_tie rfl ⟨rfl, rfl⟩ (by kernel_rfl) rfl
    (fun f fn hf hfn => by
      obtain rfl : f = 5 := Option.some.inj ((show Tryd.prog.funcNamed "loop.example/g00262/laws.FnExactTimesDec" = some 5 by kernel_rfl).symm.trans hf) |>.symm
      obtain rfl : fn = Tryd.f5 := (Option.some.inj (Tryd.func5.symm.trans hfn)).symm
      exact ⟨by kernel_rfl, fun j t ht => by
        rw [Tryd.params5] at ht
        have hm : t ∈ [23, 23] := by simpa using Array.mem_of_getElem? ht
        have hall : ([23, 23].all fun u => !Tryd.prog.wantsStandIn u) = true := by kernel_rfl
        exact (show Tryd.prog.wantsStandIn t = false by simpa using List.all_eq_true.1 hall t hm)⟩)
    (by kernel_rfl)
#print axioms proved
end Go.Proofs.YtaliphegdclkfaaDoor.fnExactTimesDec
namespace Go.Proofs.YtaliphegdclkfaaDoor
/-- The row, under a short name, for the claim. -/
theorem fnExactTimesDec_holds : Rows.FnExactTimesDecCardSaid := fnExactTimesDec.proved
end Go.Proofs.YtaliphegdclkfaaDoor
