/- The law FnExactPrintDoc answers true at every input that its row lets in, and its arguments read afterwards as before. -/
import Derived.Test.YtbhklkpjjpkblaaGreatDoorRows
import Derived.Test.YtbhklkpjjpkblaaGreatDoorCards
import Derived.Test.YtbhklkpjjpkblaaGreatDoorTie
import Derived.Test.YtbhklkpjjpkblaaGreatDoorPPx16
import Derived.Test.YtbhklkpjjpkblaaGreatDoorPPAll
import Derived.Test.YtbhklkpjjpkblaaGreatDoorHOpen
import Derived.WalkKit
import Derived.ProofKit
import Derived.OpenShut
import Derived.ShutString
import Derived.ChangeOld
import Derived.Below
import Derived.SizedLaws
import Derived.Carry
import Derived.LaidMore
import Derived.Lay
import Derived.Stop.Joined
import Derived.SevenTiedAt
namespace Go.Proofs.YtbhklkpjjpkblaaGreatDoor.fnExactPrintDoc
open Go.ChangeShapes Go.WideShapes Go.ChangeAt Go.RowKit Go.Proofs.YtbhklkpjjpkblaaGreatDoorW.PrintWords Go.Proofs.YtbhklkpjjpkblaaGreatDoorW.Open Go.Proofs.YtbhklkpjjpkblaaGreatDoor.PP Go.Proofs.YtbhklkpjjpkblaaGreatDoorW.GlM
open Go.ChangeMaps (open_string shut_string)
set_option linter.unusedVariables false
theorem opens70 : Opens Tryz.prog k70 70 WF70 := by
  intro H enc w base spare held fuel cs x h hw
  obtain ⟨hl, hs⟩ := opens_fields Tryz.underlying70 (by kernel_rfl) (by kernel_rfl) h hw
  have hl : cs.length = 2 := hl
  clear h hw
  obtain ⟨v0, n0, y0, c0, t0, g0⟩ := hs 0 _ rfl
  obtain ⟨x0, k0, w0⟩ := (opens_string Tryz.underlying9) t0 g0
  obtain ⟨v1, n1, y1, c1, t1, g1⟩ := hs 1 _ rfl
  obtain ⟨x1, k1, w1⟩ := (opens_string Tryz.underlying9) t1 g1
  have ecs : cs = [v0, v1] := by
    apply List.ext_getElem?
    intro i
    rcases i with _ | _ | i
    · exact c0
    · exact c1
    · rw [List.getElem?_eq_none (by omega), List.getElem?_eq_none (by simp)]
  subst ecs
  exact ⟨⟨x0, x1⟩, ⟨[v0], [v1], rfl, k0, k1⟩, ⟨w0, w1⟩⟩
theorem opens33 : Opens Tryz.prog k33 33 WF33 := by
  intro H enc w base spare held fuel cs x h hw
  obtain ⟨hl, hs⟩ := opens_fields Tryz.underlying33 (by kernel_rfl) (by kernel_rfl) h hw
  have hl : cs.length = 4 := hl
  clear h hw
  obtain ⟨v0, n0, y0, c0, t0, g0⟩ := hs 0 _ rfl
  obtain ⟨x0, k0, w0⟩ := (opens_int Tryz.underlying2) t0 g0
  obtain ⟨v1, n1, y1, c1, t1, g1⟩ := hs 1 _ rfl
  obtain ⟨x1, k1, w1⟩ := (opens_string Tryz.underlying9) t1 g1
  obtain ⟨v2, n2, y2, c2, t2, g2⟩ := hs 2 _ rfl
  obtain ⟨x2, k2, w2⟩ := (opens_string Tryz.underlying9) t2 g2
  obtain ⟨v3, n3, y3, c3, t3, g3⟩ := hs 3 _ rfl
  obtain ⟨x3, k3, w3⟩ := (opens_slice (B := 32) Tryz.underlying31 (by kernel_rfl) (by kernel_rfl) opens70) t3 g3
  have ecs : cs = [v0, v1, v2, v3] := by
    apply List.ext_getElem?
    intro i
    rcases i with _ | _ | _ | _ | i
    · exact c0
    · exact c1
    · exact c2
    · exact c3
    · rw [List.getElem?_eq_none (by omega), List.getElem?_eq_none (by simp)]
  subst ecs
  exact ⟨⟨x0, x1, x2, x3⟩, ⟨[v0], [v1, v2, v3], rfl, k0, ⟨[v1], [v2, v3], rfl, k1, ⟨[v2], [v3], rfl, k2, k3⟩⟩⟩, ⟨w0, w1, w2, w3.1, w3.2⟩⟩
theorem own : ownKnob Tryz.prog.godebug = none := by kernel_rfl
theorem laidOut : laidOutB Tryz.prog = true := by kernel_rfl
theorem gl_of {W : World} (h : laidMetH Tryz.prog Rows.fnExactPrintDocRow.laid W) (hs : W.ShapedOpen Tryz.prog) : GL W := by
  rw [MakeChecks.laidMetH_plain _ _ _ (by kernel_rfl)] at h
  exact gl_of_laid h (by simp [Rows.fnExactPrintDocRow, Rows.laid_unicode_utf8_first]) (by simp [Rows.fnExactPrintDocRow]) hs
set_option maxRecDepth 100000 in
theorem lifted (os : Os) (started : os.Started) (H : Type) (enc : TypeId × Value → H) :
    ReturnsInHanded {} Tryz.checked os 3 .any (fun w args => (Rows.fnExactPrintDocSpec.pre enc Tryz.prog Tryz.f3 [] false w args ∧ laidMetH Tryz.prog Rows.fnExactPrintDocRow.laid w) ∧ sizedMet enc Tryz.prog Tryz.f3 (OpenSpec.ofChange Rows.fnExactPrintDocSpec) false w args) (Rows.fnExactPrintDocSpec.post enc Tryz.prog Tryz.f3 false true false false) := by
  refine returnsHanded_laid_shaped (C := Tryz.checked) (X := fun w _ => laidMetH Tryz.prog Rows.fnExactPrintDocRow.laid w) (fun _ _ _ hh h => h.of_heap hh) own started (by kernel_rfl) Tryz.func3
    (ChangeSpec.witness_shaped (enc := enc) (C := Tryz.checked) (os := os) (X := fun w _ => laidMetH Tryz.prog Rows.fnExactPrintDocRow.laid w) false (World.laidAll Tryz.prog os Rows.fnExactPrintDocRow.laid) #[.slice none 0 0] 8 (World.laidAll_os _ _ _)
      (World.shaped_of_ZipB (by kernel_rfl) (by kernel_rfl)) (by kernel_rfl) (by kernel_rfl) (by kernel_rfl)
      (by rw [MakeChecks.laidMetH_plain _ _ _ (by kernel_rfl)]; exact laidMet_laidAll _ (by kernel_rfl) (by kernel_rfl))) ?_
  intro W base args ds gs before hval0 hW _ hsz0 hL hsh
  have hsz : (DataW.weightsEach Tryz.prog (Tryz.f3.params.toList ++ Rows.fnExactPrintDocSpec.plain.varTypes Tryz.prog) (ds ++ gs)).all (· ≤ reachBytes) = true := hsz0
  have hval : ∀ (j : Nat) t v, Tryz.f3.params[j]? = some t → args[j]? = some v → Value.okWide Tryz.prog W .any base t v := hval0
  have hW' := hW
  obtain ⟨p, q, hA0, hV, rfl, hfz, hnd⟩ := hW
  have hA : DataW.TrodAll enc Tryz.prog W 0 (fun _ => true) true Tryz.f3.params.toList args.toList ds p := hA0
  rw [Tryz.params3] at hA hval hsz
  obtain ⟨v0, vs0, d0, ds0, p0, q0, hargs, rfl, rfl, h0, r0⟩ := trodAll_cons hA
  obtain ⟨rfl, rfl, rfl⟩ := trodAll_nil r0
  obtain rfl : args = #[v0] := by cases args; simp_all
  obtain ⟨rfl, rfl⟩ := trodVars_none hV
  have k0 := h0
  have lt0 : ∀ x ∈ p0, x.block < W.heap.size := by obtain ⟨m, hm⟩ := k0; exact DataW.trod_lt m _ _ _ hm
  have gw0 := weights_of (P := Tryz.prog) hsz (j := 0) (t := 22) (d := d0) rfl rfl
  obtain ⟨A0, len0, cap0, rfl⟩ := okWide_slice Tryz.underlying22 (hval 0 22 v0 rfl rfl)
  obtain ⟨fu0, hf0⟩ := h0
  have hf0 : DataW.trod enc Tryz.prog W 0 (fun _ => true) true fu0 22 [.slice A0 len0 cap0] = some (d0, p0) := by simpa [Value.cells] using hf0
  obtain ⟨l0, ⟨B0, c0, hE0, hc0, hC0⟩, w0⟩ := (opens_slice (B := 64) Tryz.underlying22 (by kernel_rfl) (by kernel_rfl) opens33) hf0 gw0
  obtain ⟨rfl, rfl, rfl⟩ : A0 = B0 ∧ len0 = l0.length ∧ cap0 = c0 := by
    injection hE0 with e1 _
    injection e1 with e1 e2 e3
    exact ⟨e1, e2, e3⟩
  clear hA0 hval0 hsz0 hsz
  obtain ⟨k, hp⟩ := Pure.FnExactPrintDoc l0 w0.1 w0.2
  refine (PP.laws_FnExactPrintDoc.calls k A0 cap0 l0 true W (gl_of hL hsh) hC0 hc0 hp).mono fun e W' ⟨he, bel0⟩ => ?_
  have bel : Below W.heap.size W W' := bel0
  subst he
  exact ⟨_, rfl, _, _, _, [], _, [], hW', trodAll_mk1 (shut_bool Tryz.underlying4 _), (trodAll_cons_mk (Below.trod laidOut (by kernel_rfl) (of_decide_eq_true (by kernel_rfl)) k0 bel lt0) trodAll_mk0), rfl, bel.frame _, fun h => by cases h⟩
theorem over : Rows.fnExactPrintDocRow.holds Tryz.pinned (OpenSpec.ofChange Rows.fnExactPrintDocSpec) :=
  OpenClaim.holds_of_wide 3 Tryz.f3 rfl rfl rfl rfl rfl rfl rfl ⟨rfl, rfl, rfl, rfl, rfl⟩ rfl rfl rfl rfl rfl (by kernel_rfl) Tryz.func3 (by kernel_rfl)
    (of_decide_eq_true (by kernel_rfl)) (by unfold Func.isWrapper; first | (rw [if_pos (by decide +kernel)]; kernel_rfl) | (rw [if_neg (by decide +kernel)]; exact ⟨rfl, rfl⟩))
    (fun os started H enc _ => lifted os started H enc)
theorem proved : Rows.FnExactPrintDocCardSaid :=
  Claim7.holds_tied_plain_at .later [] [.data, .pinned] true (true, "866057de1fcb823d8f19aa7a3f17f95875a39a7e5396f3003509bfb5cd8f7c4b") true over (fun _ h => by cases h) (by kernel_rfl) (fun _ h => by cases h) fnExactPrintDoc_row_tie rfl ⟨rfl, rfl⟩ (by kernel_rfl) rfl
    (fun f fn hf hfn => by
      obtain rfl : f = 3 := Option.some.inj ((show Tryz.prog.funcNamed "loop.example/g00262/laws.FnExactPrintDoc" = some 3 by kernel_rfl).symm.trans hf) |>.symm
      obtain rfl : fn = Tryz.f3 := (Option.some.inj (Tryz.func3.symm.trans hfn)).symm
      exact ⟨by kernel_rfl, fun j t ht => by
        rw [Tryz.params3] at ht
        have hm : t ∈ [22] := by simpa using Array.mem_of_getElem? ht
        have hall : ([22].all fun u => !Tryz.prog.wantsStandIn u) = true := by kernel_rfl
        exact (show Tryz.prog.wantsStandIn t = false by simpa using List.all_eq_true.1 hall t hm)⟩)
    (by kernel_rfl)
#print axioms proved
end Go.Proofs.YtbhklkpjjpkblaaGreatDoor.fnExactPrintDoc
namespace Go.Proofs.YtbhklkpjjpkblaaGreatDoor
/-- The row, under a short name, for the claim. -/
theorem fnExactPrintDoc_holds : Rows.FnExactPrintDocCardSaid := fnExactPrintDoc.proved
end Go.Proofs.YtbhklkpjjpkblaaGreatDoor
