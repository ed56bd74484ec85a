/- The law FnExactNamesOf answers true at every input that its row lets in, and its arguments read afterwards as before. -/
import Derived.Test.YtbhklkpjjpkblaaDoorRows
import Derived.Test.YtbhklkpjjpkblaaDoorCards
import Derived.Test.YtbhklkpjjpkblaaDoorTie
import Derived.Test.YtbhklkpjjpkblaaDoorPIx20
import Derived.Test.YtbhklkpjjpkblaaDoorIPAll
import Derived.Test.YtbhklkpjjpkblaaDoorHOpen
import Derived.WalkKit
import Derived.ProofKit
import Derived.OpenShut
import Derived.ShutString
import Derived.ChangeOld
import Derived.Below
import Derived.SizedLaws
import Derived.Carry
import Derived.LaidMore
import Derived.Lay
import Derived.Stop.Joined
import Derived.SevenTiedAt
namespace Go.Proofs.YtbhklkpjjpkblaaDoor.fnExactNamesOf
open Go.ChangeShapes Go.WideShapes Go.ChangeAt Go.RowKit Go.Proofs.YtbhklkpjjpkblaaDoorW.PrintWords Go.Proofs.YtbhklkpjjpkblaaDoorW.Open Go.Proofs.YtbhklkpjjpkblaaDoor.PI Go.Proofs.YtbhklkpjjpkblaaDoorW.GlM
open Go.ChangeMaps (open_string shut_string)
set_option linter.unusedVariables false
theorem opens141 : Opens Tryd.prog k141 141 WF141 := by
  intro H enc w base spare held fuel cs x h hw
  obtain ⟨hl, hs⟩ := opens_fields Tryd.underlying141 (by kernel_rfl) (by kernel_rfl) h hw
  have hl : cs.length = 2 := hl
  clear h hw
  obtain ⟨v0, n0, y0, c0, t0, g0⟩ := hs 0 _ rfl
  obtain ⟨x0, k0, w0⟩ := (opens_string Tryd.underlying9) t0 g0
  obtain ⟨v1, n1, y1, c1, t1, g1⟩ := hs 1 _ rfl
  obtain ⟨x1, k1, w1⟩ := (opens_string Tryd.underlying9) t1 g1
  have ecs : cs = [v0, v1] := by
    apply List.ext_getElem?
    intro i
    rcases i with _ | _ | i
    · exact c0
    · exact c1
    · rw [List.getElem?_eq_none (by omega), List.getElem?_eq_none (by simp)]
  subst ecs
  exact ⟨⟨x0, x1⟩, ⟨[v0], [v1], rfl, k0, k1⟩, ⟨w0, w1⟩⟩
theorem opens71 : Opens Tryd.prog k71 71 WF71 := by
  intro H enc w base spare held fuel cs x h hw
  obtain ⟨hl, hs⟩ := opens_fields Tryd.underlying71 (by kernel_rfl) (by kernel_rfl) h hw
  have hl : cs.length = 4 := hl
  clear h hw
  obtain ⟨v0, n0, y0, c0, t0, g0⟩ := hs 0 _ rfl
  obtain ⟨x0, k0, w0⟩ := (opens_int Tryd.underlying2) t0 g0
  obtain ⟨v1, n1, y1, c1, t1, g1⟩ := hs 1 _ rfl
  obtain ⟨x1, k1, w1⟩ := (opens_string Tryd.underlying9) t1 g1
  obtain ⟨v2, n2, y2, c2, t2, g2⟩ := hs 2 _ rfl
  obtain ⟨x2, k2, w2⟩ := (opens_string Tryd.underlying9) t2 g2
  obtain ⟨v3, n3, y3, c3, t3, g3⟩ := hs 3 _ rfl
  obtain ⟨x3, k3, w3⟩ := (opens_slice (B := 32) Tryd.underlying69 (by kernel_rfl) (by kernel_rfl) opens141) t3 g3
  have ecs : cs = [v0, v1, v2, v3] := by
    apply List.ext_getElem?
    intro i
    rcases i with _ | _ | _ | _ | i
    · exact c0
    · exact c1
    · exact c2
    · exact c3
    · rw [List.getElem?_eq_none (by omega), List.getElem?_eq_none (by simp)]
  subst ecs
  exact ⟨⟨x0, x1, x2, x3⟩, ⟨[v0], [v1, v2, v3], rfl, k0, ⟨[v1], [v2, v3], rfl, k1, ⟨[v2], [v3], rfl, k2, k3⟩⟩⟩, ⟨w0, w1, w2, w3.1, w3.2⟩⟩
theorem own : ownKnob Tryd.prog.godebug = none := by kernel_rfl
theorem laidOut : laidOutB Tryd.prog = true := by kernel_rfl
theorem gl_of {W : World} (h : laidMetH Tryd.prog Rows.fnExactNamesOfRow.laid W) (hs : W.ShapedOpen Tryd.prog) : GL W := by
  rw [MakeChecks.laidMetH_plain _ _ _ (by kernel_rfl)] at h
  exact gl_of_laid h (by simp [Rows.fnExactNamesOfRow, Rows.laid_unicode_utf8_first]) (by simp [Rows.fnExactNamesOfRow]) hs
set_option maxRecDepth 100000 in
theorem lifted (os : Os) (started : os.Started) (H : Type) (enc : TypeId × Value → H) :
    ReturnsInHanded {} Tryd.checked os 10 .any (fun w args => (Rows.fnExactNamesOfSpec.pre enc Tryd.prog Tryd.f10 [] false w args ∧ laidMetH Tryd.prog Rows.fnExactNamesOfRow.laid w) ∧ sizedMet enc Tryd.prog Tryd.f10 (OpenSpec.ofChange Rows.fnExactNamesOfSpec) false w args) (Rows.fnExactNamesOfSpec.post enc Tryd.prog Tryd.f10 false true false false) := by
  refine returnsHanded_laid_shaped (C := Tryd.checked) (X := fun w _ => laidMetH Tryd.prog Rows.fnExactNamesOfRow.laid w) (fun _ _ _ hh h => h.of_heap hh) own started (by kernel_rfl) Tryd.func10
    (ChangeSpec.witness_shaped (enc := enc) (C := Tryd.checked) (os := os) (X := fun w _ => laidMetH Tryd.prog Rows.fnExactNamesOfRow.laid w) false (World.laidAll Tryd.prog os Rows.fnExactNamesOfRow.laid) #[.slice none 0 0] 8 (World.laidAll_os _ _ _)
      (World.shaped_of_ZipB (by kernel_rfl) (by kernel_rfl)) (by kernel_rfl) (by kernel_rfl) (by kernel_rfl)
      (by rw [MakeChecks.laidMetH_plain _ _ _ (by kernel_rfl)]; exact laidMet_laidAll _ (by kernel_rfl) (by kernel_rfl))) ?_
  intro W base args ds gs before hval0 hW _ hsz0 hL hsh
  have hsz : (DataW.weightsEach Tryd.prog (Tryd.f10.params.toList ++ Rows.fnExactNamesOfSpec.plain.varTypes Tryd.prog) (ds ++ gs)).all (· ≤ reachBytes) = true := hsz0
  have hval : ∀ (j : Nat) t v, Tryd.f10.params[j]? = some t → args[j]? = some v → Value.okWide Tryd.prog W .any base t v := hval0
  have hW' := hW
  obtain ⟨p, q, hA0, hV, rfl, hfz, hnd⟩ := hW
  have hA : DataW.TrodAll enc Tryd.prog W 0 (fun _ => true) true Tryd.f10.params.toList args.toList ds p := hA0
  rw [Tryd.params10] at hA hval hsz
  obtain ⟨v0, vs0, d0, ds0, p0, q0, hargs, rfl, rfl, h0, r0⟩ := trodAll_cons hA
  obtain ⟨rfl, rfl, rfl⟩ := trodAll_nil r0
  obtain rfl : args = #[v0] := by cases args; simp_all
  obtain ⟨rfl, rfl⟩ := trodVars_none hV
  have k0 := h0
  have lt0 : ∀ x ∈ p0, x.block < W.heap.size := by obtain ⟨m, hm⟩ := k0; exact DataW.trod_lt m _ _ _ hm
  have gw0 := weights_of (P := Tryd.prog) hsz (j := 0) (t := 27) (d := d0) rfl rfl
  obtain ⟨A0, len0, cap0, rfl⟩ := okWide_slice Tryd.underlying27 (hval 0 27 v0 rfl rfl)
  obtain ⟨fu0, hf0⟩ := h0
  have hf0 : DataW.trod enc Tryd.prog W 0 (fun _ => true) true fu0 27 [.slice A0 len0 cap0] = some (d0, p0) := by simpa [Value.cells] using hf0
  obtain ⟨l0, ⟨B0, c0, hE0, hc0, hC0⟩, w0⟩ := (opens_slice (B := 64) Tryd.underlying27 (by kernel_rfl) (by kernel_rfl) opens71) hf0 gw0
  obtain ⟨rfl, rfl, rfl⟩ : A0 = B0 ∧ len0 = l0.length ∧ cap0 = c0 := by
    injection hE0 with e1 _
    injection e1 with e1 e2 e3
    exact ⟨e1, e2, e3⟩
  clear hA0 hval0 hsz0 hsz
  obtain ⟨k, hp⟩ := Pure.FnExactNamesOf l0 w0.1 w0.2
  refine (PI.laws_FnExactNamesOf.calls k A0 cap0 l0 true W (gl_of hL hsh) hC0 hc0 hp).mono fun e W' ⟨he, bel0⟩ => ?_
  have bel : Below W.heap.size W W' := bel0
  subst he
  exact ⟨_, rfl, _, _, _, [], _, [], hW', trodAll_mk1 (shut_bool Tryd.underlying4 _), (trodAll_cons_mk (Below.trod laidOut (by kernel_rfl) (of_decide_eq_true (by kernel_rfl)) k0 bel lt0) trodAll_mk0), rfl, bel.frame _, fun h => by cases h⟩
theorem over : Rows.fnExactNamesOfRow.holds Tryd.pinned (OpenSpec.ofChange Rows.fnExactNamesOfSpec) :=
  OpenClaim.holds_of_wide 10 Tryd.f10 rfl rfl rfl rfl rfl rfl rfl ⟨rfl, rfl, rfl, rfl, rfl⟩ rfl rfl rfl rfl rfl (by kernel_rfl) Tryd.func10 (by kernel_rfl)
    (of_decide_eq_true (by kernel_rfl)) (by unfold Func.isWrapper; first | (rw [if_pos (by decide +kernel)]; kernel_rfl) | (rw [if_neg (by decide +kernel)]; exact ⟨rfl, rfl⟩))
    (fun os started H enc _ => lifted os started H enc)
theorem proved : Rows.FnExactNamesOfCardSaid :=
  Claim7.holds_tied_plain_at .later [] [.data, .pinned] true (true, "fa0c974cbd399fa535e477f122da986fdd03a5407b54bb361c8bf843baa6aa01") true over (fun _ h => by cases h) (by kernel_rfl) (fun _ h => by cases h) fnExactNamesOf_row_tie rfl ⟨rfl, rfl⟩ (by kernel_rfl) rfl
    (fun f fn hf hfn => by
      obtain rfl : f = 10 := Option.some.inj ((show Tryd.prog.funcNamed "loop.example/g00262/laws.FnExactNamesOf" = some 10 by kernel_rfl).symm.trans hf) |>.symm
      obtain rfl : fn = Tryd.f10 := (Option.some.inj (Tryd.func10.symm.trans hfn)).symm
      exact ⟨by kernel_rfl, fun j t ht => by
        rw [Tryd.params10] at ht
        have hm : t ∈ [27] := by simpa using Array.mem_of_getElem? ht
        have hall : ([27].all fun u => !Tryd.prog.wantsStandIn u) = true := by kernel_rfl
        exact (show Tryd.prog.wantsStandIn t = false by simpa using List.all_eq_true.1 hall t hm)⟩)
    (by kernel_rfl)
#print axioms proved
end Go.Proofs.YtbhklkpjjpkblaaDoor.fnExactNamesOf
namespace Go.Proofs.YtbhklkpjjpkblaaDoor
/-- The row, under a short name, for the claim. -/
theorem fnExactNamesOf_holds : Rows.FnExactNamesOfCardSaid := fnExactNamesOf.proved
end Go.Proofs.YtbhklkpjjpkblaaDoor
