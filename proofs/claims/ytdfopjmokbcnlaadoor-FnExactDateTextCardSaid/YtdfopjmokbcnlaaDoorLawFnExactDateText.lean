/- The law FnExactDateText answers true at every input that its row lets in, and its arguments read afterwards as before. -/
import Derived.Test.YtdfopjmokbcnlaaDoorRows
import Derived.Test.YtdfopjmokbcnlaaDoorCards
import Derived.Test.YtdfopjmokbcnlaaDoorTie
import Derived.Test.YtdfopjmokbcnlaaDoorPXx5
import Derived.Test.YtdfopjmokbcnlaaDoorPureFnExactDateText
import Derived.Test.YtdfopjmokbcnlaaDoorHOpen
import Derived.WalkKit
import Derived.ProofKit
import Derived.OpenShut
import Derived.ShutString
import Derived.ChangeOld
import Derived.Below
import Derived.SizedLaws
import Derived.Carry
import Derived.LaidMore
import Derived.Lay
import Derived.Stop.Joined
import Derived.SevenTiedAt
namespace Go.Proofs.YtdfopjmokbcnlaaDoor.fnExactDateText
open Go.ChangeShapes Go.WideShapes Go.ChangeAt Go.RowKit Go.Proofs.YtdfopjmokbcnlaaDoorW.PrintWords Go.Proofs.YtdfopjmokbcnlaaDoorW.Open Go.Proofs.YtdfopjmokbcnlaaDoor.PX Go.Proofs.YtdfopjmokbcnlaaDoorW.GlM
open Go.ChangeMaps (open_string shut_string)
set_option linter.unusedVariables false
theorem opens28 : Opens Tryd.prog k28 28 WF28 := by
  intro H enc w base spare held fuel cs x h hw
  obtain ⟨hl, hs⟩ := opens_fields Tryd.underlying28 (by kernel_rfl) (by kernel_rfl) h hw
  have hl : cs.length = 8 := hl
  clear h hw
  obtain ⟨v0, n0, y0, c0, t0, g0⟩ := hs 0 _ rfl
  obtain ⟨x0, k0, w0⟩ := (opens_int Tryd.underlying2) t0 g0
  obtain ⟨v1, n1, y1, c1, t1, g1⟩ := hs 1 _ rfl
  obtain ⟨x1, k1, w1⟩ := (opens_int Tryd.underlying2) t1 g1
  obtain ⟨v2, n2, y2, c2, t2, g2⟩ := hs 2 _ rfl
  obtain ⟨x2, k2, w2⟩ := (opens_int Tryd.underlying2) t2 g2
  obtain ⟨v3, n3, y3, c3, t3, g3⟩ := hs 3 _ rfl
  obtain ⟨x3, k3, w3⟩ := (opens_int Tryd.underlying2) t3 g3
  obtain ⟨v4, n4, y4, c4, t4, g4⟩ := hs 4 _ rfl
  obtain ⟨x4, k4, w4⟩ := (opens_int Tryd.underlying2) t4 g4
  obtain ⟨v5, n5, y5, c5, t5, g5⟩ := hs 5 _ rfl
  obtain ⟨x5, k5, w5⟩ := (opens_int Tryd.underlying2) t5 g5
  obtain ⟨v6, n6, y6, c6, t6, g6⟩ := hs 6 _ rfl
  obtain ⟨x6, k6, w6⟩ := (opens_bool Tryd.underlying4) t6 g6
  obtain ⟨v7, n7, y7, c7, t7, g7⟩ := hs 7 _ rfl
  obtain ⟨x7, k7, w7⟩ := (opens_int Tryd.underlying2) t7 g7
  have ecs : cs = [v0, v1, v2, v3, v4, v5, v6, v7] := by
    apply List.ext_getElem?
    intro i
    rcases i with _ | _ | _ | _ | _ | _ | _ | _ | i
    · exact c0
    · exact c1
    · exact c2
    · exact c3
    · exact c4
    · exact c5
    · exact c6
    · exact c7
    · rw [List.getElem?_eq_none (by omega), List.getElem?_eq_none (by simp)]
  subst ecs
  exact ⟨⟨x0, x1, x2, x3, x4, x5, x6, x7⟩, ⟨[v0], [v1, v2, v3, v4, v5, v6, v7], rfl, k0, ⟨[v1], [v2, v3, v4, v5, v6, v7], rfl, k1, ⟨[v2], [v3, v4, v5, v6, v7], rfl, k2, ⟨[v3], [v4, v5, v6, v7], rfl, k3, ⟨[v4], [v5, v6, v7], rfl, k4, ⟨[v5], [v6, v7], rfl, k5, ⟨[v6], [v7], rfl, k6, k7⟩⟩⟩⟩⟩⟩⟩, ⟨w0, w1, w2, w3, w4, w5, w7⟩⟩
theorem own : ownKnob Tryd.prog.godebug = none := by kernel_rfl
theorem laidOut : laidOutB Tryd.prog = true := by kernel_rfl
theorem gl_of {W : World} (h : laidMetH Tryd.prog Rows.fnExactDateTextRow.laid W) (hs : W.ShapedOpen Tryd.prog) : GL W := by
  rw [MakeChecks.laidMetH_plain _ _ _ (by kernel_rfl)] at h
  exact gl_of_laid h (by simp [Rows.fnExactDateTextRow])
set_option maxRecDepth 100000 in
theorem lifted (os : Os) (started : os.Started) (H : Type) (enc : TypeId × Value → H) :
    ReturnsInHanded {} Tryd.checked os 4 .any (fun w args => (Rows.fnExactDateTextSpec.pre enc Tryd.prog Tryd.f4 [] false w args ∧ laidMetH Tryd.prog Rows.fnExactDateTextRow.laid w) ∧ sizedMet enc Tryd.prog Tryd.f4 (OpenSpec.ofChange Rows.fnExactDateTextSpec) false w args) (Rows.fnExactDateTextSpec.post enc Tryd.prog Tryd.f4 false true false false) := by
  refine returnsHanded_laid_shaped (C := Tryd.checked) (X := fun w _ => laidMetH Tryd.prog Rows.fnExactDateTextRow.laid w) (fun _ _ _ hh h => h.of_heap hh) own started (by kernel_rfl) Tryd.func4
    (ChangeSpec.witness_shaped (enc := enc) (C := Tryd.checked) (os := os) (X := fun w _ => laidMetH Tryd.prog Rows.fnExactDateTextRow.laid w) false (World.laidAll Tryd.prog os Rows.fnExactDateTextRow.laid) #[.agg #[.int .i64 0, .int .i64 0, .int .i64 0, .int .i64 0, .int .i64 0, .int .i64 0, .bool false, .int .i64 0]] 8 (World.laidAll_os _ _ _)
      (World.shaped_of_ZipB (by kernel_rfl) (by kernel_rfl)) (by kernel_rfl) (by kernel_rfl) (by kernel_rfl)
      (by rw [MakeChecks.laidMetH_plain _ _ _ (by kernel_rfl)]; exact laidMet_laidAll _ (by kernel_rfl) (by kernel_rfl))) ?_
  intro W base args ds gs before hval0 hW _ hsz0 hL hsh
  have hsz : (DataW.weightsEach Tryd.prog (Tryd.f4.params.toList ++ Rows.fnExactDateTextSpec.plain.varTypes Tryd.prog) (ds ++ gs)).all (· ≤ reachBytes) = true := hsz0
  have hval : ∀ (j : Nat) t v, Tryd.f4.params[j]? = some t → args[j]? = some v → Value.okWide Tryd.prog W .any base t v := hval0
  have hW' := hW
  obtain ⟨p, q, hA0, hV, rfl, hfz, hnd⟩ := hW
  have hA : DataW.TrodAll enc Tryd.prog W 0 (fun _ => true) true Tryd.f4.params.toList args.toList ds p := hA0
  rw [Tryd.params4] at hA hval hsz
  obtain ⟨v0, vs0, d0, ds0, p0, q0, hargs, rfl, rfl, h0, r0⟩ := trodAll_cons hA
  obtain ⟨rfl, rfl, rfl⟩ := trodAll_nil r0
  obtain rfl : args = #[v0] := by cases args; simp_all
  obtain ⟨rfl, rfl⟩ := trodVars_none hV
  have k0 := h0
  have lt0 : ∀ x ∈ p0, x.block < W.heap.size := by obtain ⟨m, hm⟩ := k0; exact DataW.trod_lt m _ _ _ hm
  have gw0 := weights_of (P := Tryd.prog) hsz (j := 0) (t := 28) (d := d0) rfl rfl
  obtain ⟨cs0, rfl, _⟩ := okWide_struct Tryd.underlying28 (hval 0 28 v0 rfl rfl)
  obtain ⟨fu0, hf0⟩ := h0
  have hf0 : DataW.trod enc Tryd.prog W 0 (fun _ => true) true fu0 28 cs0.toList = some (d0, p0) := by simpa [Value.cells] using hf0
  obtain ⟨x0, hK0, w0⟩ := opens28 hf0 gw0
  have hE0 := k28_open hK0
  obtain rfl : cs0 = #[.int .i64 x0.f0, .int .i64 x0.f1, .int .i64 x0.f2, .int .i64 x0.f3, .int .i64 x0.f4, .int .i64 x0.f5, .bool x0.f6, .int .i64 x0.f7] := by apply Array.ext'; exact hE0
  clear hA0 hval0 hsz0 hsz
  obtain ⟨k, hp⟩ := Pure.FnExactDateText x0.f0 x0.f1 x0.f2 x0.f3 x0.f4 x0.f5 x0.f6 x0.f7 w0.1 w0.2.1 w0.2.2.1 w0.2.2.2.1 w0.2.2.2.2.1 w0.2.2.2.2.2.1 w0.2.2.2.2.2.2
  refine (PX.laws_FnExactDateText.calls k x0.f0 x0.f1 x0.f2 x0.f3 x0.f4 x0.f5 x0.f6 x0.f7 true W (gl_of hL hsh)  hp).mono fun e W' ⟨he, bel0⟩ => ?_
  have bel : Below W.heap.size W W' := bel0
  subst he
  exact ⟨_, rfl, _, _, _, [], _, [], hW', trodAll_mk1 (shut_bool Tryd.underlying4 _), (trodAll_cons_mk (Below.trod laidOut (by kernel_rfl) (of_decide_eq_true (by kernel_rfl)) k0 bel lt0) trodAll_mk0), rfl, bel.frame _, fun h => by cases h⟩
theorem over : Rows.fnExactDateTextRow.holds Tryd.pinned (OpenSpec.ofChange Rows.fnExactDateTextSpec) :=
  OpenClaim.holds_of_wide 4 Tryd.f4 rfl rfl rfl rfl rfl rfl rfl ⟨rfl, rfl, rfl, rfl, rfl⟩ rfl rfl rfl rfl rfl (by kernel_rfl) Tryd.func4 (by kernel_rfl)
    (of_decide_eq_true (by kernel_rfl)) (by unfold Func.isWrapper; first | (rw [if_pos (by decide +kernel)]; kernel_rfl) | (rw [if_neg (by decide +kernel)]; exact ⟨rfl, rfl⟩))
    (fun os started H enc _ => lifted os started H enc)
theorem proved : Rows.FnExactDateTextCardSaid :=
  Claim7.holds_tied_plain_at .later [] [.data, .data, .data] true (true, "8a76ba7dedc5ecef1791e1b056e492104818e34cf43ac59335f80f73310ddd83") true over (fun _ h => by cases h) (by kernel_rfl) (fun _ h => by cases h) fnExactDateText_row_tie rfl ⟨rfl, rfl⟩ (by kernel_rfl) rfl
    (fun f fn hf hfn => by
      obtain rfl : f = 4 := Option.some.inj ((show Tryd.prog.funcNamed "loop.example/g00262/laws.FnExactDateText" = some 4 by kernel_rfl).symm.trans hf) |>.symm
      obtain rfl : fn = Tryd.f4 := (Option.some.inj (Tryd.func4.symm.trans hfn)).symm
      exact ⟨by kernel_rfl, fun j t ht => by
        rw [Tryd.params4] at ht
        have hm : t ∈ [28] := by simpa using Array.mem_of_getElem? ht
        have hall : ([28].all fun u => !Tryd.prog.wantsStandIn u) = true := by kernel_rfl
        exact (show Tryd.prog.wantsStandIn t = false by simpa using List.all_eq_true.1 hall t hm)⟩)
    (by kernel_rfl)
#print axioms proved
end Go.Proofs.YtdfopjmokbcnlaaDoor.fnExactDateText
namespace Go.Proofs.YtdfopjmokbcnlaaDoor
/-- The row, under a short name, for the claim. -/
theorem fnExactDateText_holds : Rows.FnExactDateTextCardSaid := fnExactDateText.proved
end Go.Proofs.YtdfopjmokbcnlaaDoor
