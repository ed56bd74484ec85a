/- The law FnExactClassHas answers true at every input that its row lets in, and its arguments read afterwards as before. -/
import Derived.Test.YtomfhenoblfckaaRows
import Derived.Test.YtomfhenoblfckaaPKx5
import Derived.Test.YtomfhenoblfckaaPureFnExactClassHas
import Derived.Test.YtomfhenoblfckaaHOpen
import Derived.WalkKit
import Derived.ProofKit
import Derived.OpenShut
import Derived.ShutString
import Derived.ChangeOld
import Derived.Below
import Derived.SizedLaws
import Derived.Carry
namespace Go.Proofs.Ytomfhenoblfckaa.fnExactClassHas
open Go.ChangeShapes Go.WideShapes Go.ChangeAt Go.RowKit Go.Proofs.YtomfhenoblfckaaW.PrintWords Go.Proofs.YtomfhenoblfckaaW.Open Go.Proofs.Ytomfhenoblfckaa.PK
open Go.ChangeMaps (open_string shut_string)
set_option linter.unusedVariables false
theorem opens82 : Opens Try.prog k82 82 WF82 := by
  intro H enc w base spare held fuel cs x h hw
  obtain ⟨hl, hs⟩ := opens_fields Try.underlying82 (by kernel_rfl) (by kernel_rfl) h hw
  have hl : cs.length = 2 := hl
  clear h hw
  obtain ⟨v0, n0, y0, c0, t0, g0⟩ := hs 0 _ rfl
  obtain ⟨x0, k0, w0⟩ := (opens_int Try.underlying2) t0 g0
  obtain ⟨v1, n1, y1, c1, t1, g1⟩ := hs 1 _ rfl
  obtain ⟨x1, k1, w1⟩ := (opens_int Try.underlying2) t1 g1
  have ecs : cs = [v0, v1] := by
    apply List.ext_getElem?
    intro i
    rcases i with _ | _ | i
    · exact c0
    · exact c1
    · rw [List.getElem?_eq_none (by omega), List.getElem?_eq_none (by simp)]
  subst ecs
  exact ⟨⟨x0, x1⟩, ⟨[v0], [v1], rfl, k0, k1⟩, ⟨w0, w1⟩⟩
theorem opens36 : Opens Try.prog k36 36 WF36 := by
  intro H enc w base spare held fuel cs x h hw
  obtain ⟨hl, hs⟩ := opens_fields Try.underlying36 (by kernel_rfl) (by kernel_rfl) h hw
  have hl : cs.length = 7 := hl
  clear h hw
  obtain ⟨v0, n0, y0, c0, t0, g0⟩ := hs 0 _ rfl
  obtain ⟨x0, k0, w0⟩ := (opens_int Try.underlying2) t0 g0
  obtain ⟨v1, n1, y1, c1, t1, g1⟩ := hs 1 _ rfl
  obtain ⟨x1, k1, w1⟩ := (opens_bool Try.underlying4) t1 g1
  obtain ⟨v2, n2, y2, c2, t2, g2⟩ := hs 2 _ rfl
  obtain ⟨x2, k2, w2⟩ := (opens_slice (B := 16) Try.underlying34 (by kernel_rfl) (by kernel_rfl) opens82) t2 g2
  obtain ⟨v3, n3, y3, c3, t3, g3⟩ := hs 3 _ rfl
  obtain ⟨x3, k3, w3⟩ := (opens_int Try.underlying2) t3 g3
  obtain ⟨v4, n4, y4, c4, t4, g4⟩ := hs 4 _ rfl
  obtain ⟨x4, k4, w4⟩ := (opens_int Try.underlying2) t4 g4
  obtain ⟨v5, n5, y5, c5, t5, g5⟩ := hs 5 _ rfl
  obtain ⟨x5, k5, w5⟩ := (opens_int Try.underlying2) t5 g5
  obtain ⟨v6, n6, y6, c6, t6, g6⟩ := hs 6 _ rfl
  obtain ⟨x6, k6, w6⟩ := (opens_int Try.underlying2) t6 g6
  have ecs : cs = [v0, v1, v2, v3, v4, v5, v6] := by
    apply List.ext_getElem?
    intro i
    rcases i with _ | _ | _ | _ | _ | _ | _ | i
    · exact c0
    · exact c1
    · exact c2
    · exact c3
    · exact c4
    · exact c5
    · exact c6
    · rw [List.getElem?_eq_none (by omega), List.getElem?_eq_none (by simp)]
  subst ecs
  exact ⟨⟨x0, x1, x2, x3, x4, x5, x6⟩, ⟨[v0], [v1, v2, v3, v4, v5, v6], rfl, k0, ⟨[v1], [v2, v3, v4, v5, v6], rfl, k1, ⟨[v2], [v3, v4, v5, v6], rfl, k2, ⟨[v3], [v4, v5, v6], rfl, k3, ⟨[v4], [v5, v6], rfl, k4, ⟨[v5], [v6], rfl, k5, k6⟩⟩⟩⟩⟩⟩, ⟨w0, w2.1, w2.2, w3, w4, w5, w6⟩⟩
theorem own : ownKnob Try.prog.godebug = none := by kernel_rfl
theorem laidOut : laidOutB Try.prog = true := by kernel_rfl
set_option maxRecDepth 100000 in
theorem lifted (os : Os) (started : os.Started) (H : Type) (enc : TypeId × Value → H) :
    ReturnsInHanded {} Try.checked os 7 .any (Rows.fnExactClassHasSpec.pre6 enc Try.prog Try.f7 Rows.fnExactClassHasRow.domain false) (Rows.fnExactClassHasSpec.post enc Try.prog Try.f7 false true false false) := by
  refine returnsInHanded_of_change_sized (C := Try.checked) own started (by kernel_rfl) Try.func7
    (ChangeSpec.witness6 (enc := enc) (C := Try.checked) false ⟨#[], #[.agg #[.int .i64 0, .bool false, .slice none 0 0, .int .i64 0, .int .i64 0, .int .i64 0, .int .i64 0], .int .i64 0], []⟩ 8 (by kernel_rfl) (by kernel_rfl) (by kernel_rfl) (by kernel_rfl)) ?_
  intro W base args ds gs before hval0 hW hcnd hsz0 _
  have hsz : (DataW.weightsEach Try.prog (Try.f7.params.toList ++ Rows.fnExactClassHasSpec.plain.varTypes Try.prog) (ds ++ gs)).all (· ≤ reachBytes) = true := hsz0
  have hval : ∀ (j : Nat) t v, Try.f7.params[j]? = some t → args[j]? = some v → Value.okWide Try.prog W .any base t v := hval0
  have hW' := hW
  obtain ⟨p, q, hA0, hV, rfl, hfz, hnd⟩ := hW
  have hA : DataW.TrodAll enc Try.prog W 0 (fun _ => true) true Try.f7.params.toList args.toList ds p := hA0
  rw [Try.params7] at hA hval hsz
  obtain ⟨v0, vs0, d0, ds0, p0, q0, hargs, rfl, rfl, h0, r0⟩ := trodAll_cons hA
  obtain ⟨v1, vs1, d1, ds1, p1, q1, rfl, rfl, rfl, h1, r1⟩ := trodAll_cons r0
  obtain ⟨rfl, rfl, rfl⟩ := trodAll_nil r1
  obtain rfl : args = #[v0, v1] := by cases args; simp_all
  obtain ⟨rfl, rfl⟩ := trodVars_none hV
  have k0 := h0
  have lt0 : ∀ x ∈ p0, x.block < W.heap.size := by obtain ⟨m, hm⟩ := k0; exact DataW.trod_lt m _ _ _ hm
  have gw0 := weights_of (P := Try.prog) hsz (j := 0) (t := 36) (d := d0) rfl rfl
  obtain ⟨cs0, rfl, _⟩ := okWide_struct Try.underlying36 (hval 0 36 v0 rfl rfl)
  obtain ⟨fu0, hf0⟩ := h0
  have hf0 : DataW.trod enc Try.prog W 0 (fun _ => true) true fu0 36 cs0.toList = some (d0, p0) := by simpa [Value.cells] using hf0
  obtain ⟨x0, hK0, w0⟩ := opens36 hf0 gw0
  obtain ⟨A0_2, c0_2, hE0, hc0_2, hC0_2⟩ := k36_open hK0
  obtain rfl : cs0 = #[.int .i64 x0.f0, .bool x0.f1, .slice A0_2 x0.f2.length c0_2, .int .i64 x0.f3, .int .i64 x0.f4, .int .i64 x0.f5, .int .i64 x0.f6] := by apply Array.ext'; exact hE0
  obtain ⟨a1, rfl, rfl, rfl, w1⟩ := open_int Try.underlying2 (hval 1 2 v1 rfl rfl) h1
  clear hA0 hval0 hsz0 hsz
  obtain ⟨k, hp⟩ := Pure.FnExactClassHas x0.f0 x0.f1 x0.f2 x0.f3 x0.f4 x0.f5 x0.f6 a1 w0.1 w0.2.1 w0.2.2.1 w0.2.2.2.1 w0.2.2.2.2.1 w0.2.2.2.2.2.1 w0.2.2.2.2.2.2 w1
  refine (PK.laws_FnExactClassHas.calls k x0.f0 x0.f1 A0_2 c0_2 x0.f2 x0.f3 x0.f4 x0.f5 x0.f6 a1 true W hC0_2 hc0_2 hp).mono fun e W' ⟨he, bel0⟩ => ?_
  have bel : Below W.heap.size W W' := bel0
  subst he
  exact ⟨_, rfl, _, _, _, [], _, [], hW', trodAll_mk1 (shut_bool Try.underlying4 _), (trodAll_cons_mk (Below.trod laidOut (by kernel_rfl) (of_decide_eq_true (by kernel_rfl)) k0 bel lt0) (trodAll_cons_mk (shut_int Try.underlying2 w1) trodAll_mk0)), rfl, bel.frame _, fun h => by cases h⟩
theorem over : Rows.fnExactClassHasRow.holds Try.pinned (OpenSpec.ofChange Rows.fnExactClassHasSpec) :=
  OpenClaim.holds_of_wide 7 Try.f7 rfl rfl rfl rfl rfl rfl rfl ⟨rfl, rfl, rfl, rfl, rfl⟩ rfl rfl rfl rfl rfl (by kernel_rfl) Try.func7 (by kernel_rfl)
    (of_decide_eq_true (by kernel_rfl)) (by unfold Func.isWrapper; first | (rw [if_pos (by decide +kernel)]; kernel_rfl) | (rw [if_neg (by decide +kernel)]; exact ⟨rfl, rfl⟩))
    (fun os started H enc _ => lifted os started H enc)
theorem proved : Rows.FnExactClassHasSaid := over
#print axioms proved
end Go.Proofs.Ytomfhenoblfckaa.fnExactClassHas
namespace Go.Proofs.Ytomfhenoblfckaa
/-- The row, under a short name, for the claim. -/
theorem fnExactClassHas_holds : Rows.FnExactClassHasSaid := fnExactClassHas.proved
end Go.Proofs.Ytomfhenoblfckaa
