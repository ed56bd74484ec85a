/- A drawn class and character: there always is one; and RegexOk of the reference at a class alone. -/
import Derived.Test.YtomfhenoblfckaaPKx0
import Derived.Test.YtomfhenoblfckaaPKx2
import Derived.Test.YtomfhenoblfckaaPKx6
import Derived.Test.YtomfhenoblfckaaPKx7
import Derived.Test.YtomfhenoblfckaaPKx8
import Derived.Test.YtomfhenoblfckaaPKx9
import Derived.Test.YtomfhenoblfckaaKPBase
import Derived.Test.YtomfhenoblfckaaKPIn
import Derived.Test.YtomfhenoblfckaaKPChars
import Derived.Test.YtomfhenoblfckaaKPRegex
import Derived.Test.YtomfhenoblfckaaKPClass
import Derived.Test.YtomfhenoblfckaaKPDrawB
import Derived.Test.YtomfhenoblfckaaKPDrawOff
namespace Go.Proofs.Ytomfhenoblfckaa.PK
open Go.RowKit Go.Proofs.YtomfhenoblfckaaW.PrintWords Go.Proofs.YtomfhenoblfckaaW.PrintMore
set_option linter.unusedVariables false
set_option linter.unusedSimpArgs false
theorem drawClass_l0 {b : List Int} (bo : Bool) : ∀ (n : Nat) (p : Int) (l : List S68), Rd b p → l.length + n ≤ 100 →
    ∃ (r : Int × Bool × (List S68) × Int × Int × Int × Int × Int), Ev (fun k => spec_DrawClassHas.l0 k (n : Int) b p 2 bo l 0 0 0 0) r ∧ r.2.2.1.length ≤ 100
  | 0, p, l, h, hl => by
    obtain ⟨q, p3, e3, r3⟩ := once_b h 20 (by omega)
    by_cases c : q = true
    · obtain ⟨v, p4, r4, hev⟩ := off_ev r3 1 5 (by omega) (by omega) (by omega)
      obtain ⟨u, p5, r5, hev2⟩ := off_ev r4 88 120 (by omega) (by omega) (by omega)
      refine ⟨(v, bo, l, 0, 0, 0, 0, u), Ev.step (f := fun k => (spec_l1Rd_off.f k b p3 1 5).bind fun bt231 => (spec_l1Rd_off.f k b bt231.2 88 120).bind fun bt233 => some (bt231.1, bo, l, 0, 0, 0, 0, bt233.1)) (fun k => ?_) (Ev.bind (a := (v, p4)) hev (Ev.bind (a := (u, p5)) hev2 (Ev.now _))), by simp only []; omega⟩
      simp only [spec_DrawClassHas.l0]
      rw [if_neg (by omega), e3, Option.bind_some, if_pos c]
    · obtain ⟨u, p5, r5, hev2⟩ := off_ev r3 88 120 (by omega) (by omega) (by omega)
      refine ⟨(2, bo, l, 0, 0, 0, 0, u), Ev.step (f := fun k => (spec_l1Rd_off.f k b p3 88 120).bind fun bt233 => some (2, bo, l, 0, 0, 0, 0, bt233.1)) (fun k => ?_) (Ev.bind (a := (u, p5)) hev2 (Ev.now _)), by simp only []; omega⟩
      simp only [spec_DrawClassHas.l0]
      rw [if_neg (by omega), e3, Option.bind_some, if_neg c]
  | n + 1, p, l, h, hl => by
    obtain ⟨v, p', e, v0, v1, hr⟩ := below_some h 20 (by omega)
    obtain ⟨v2, p2, e2, v02, v12, hr2⟩ := below_some hr 6 (by omega)
    obtain ⟨r, hev, hm⟩ := drawClass_l0 bo n p2 (l ++ [(⟨wrap64 (90 + v), wrap64 ((wrap64 (90 + v)) + v2)⟩ : S68)]) hr2 (by rw [List.length_append]; simp only [List.length_cons, List.length_nil]; omega)
    refine ⟨r, Ev.step (fun k => ?_) hev, hm⟩
    simp only [spec_DrawClassHas.l0]
    rw [if_pos (by omega), e, Option.bind_some, e2, Option.bind_some, if_pos (by omega), w64 (x := ((n + 1 : Nat) : Int) - 1) (by omega) (by omega), show ((n + 1 : Nat) : Int) - 1 = (n : Int) by omega]
theorem drawClass_ev (l : List Int) (h : Rd l 0) : ∃ (r : Int × Bool × (List S68) × Int × Int × Int × Int × Int), Ev (fun k => spec_DrawClassHas.f k l) r ∧ r.2.2.1.length ≤ 100 := by
  unfold spec_DrawClassHas.f
  rw [l1Open_eq]
  obtain ⟨q, p1, e1, r1⟩ := once_b h 3 (by omega)
  obtain ⟨v, p2, e2, v0, v1, r2⟩ := below_some r1 3 (by omega)
  simp only [Option.bind_some, e1, e2]
  rw [w64 (x := 1 + v) (by omega) (by omega)]
  have := drawClass_l0 q (1 + v).toNat p2 [] r2 (by simp only [List.length_nil]; omega)
  rw [show (((1 + v).toNat : Nat) : Int) = 1 + v by omega] at this
  exact this
theorem one_class (x : S41) (h2 : x.f0 = 2) (hx : x.f2.length ≤ 140737488351232) : ∃ b, Ev (fun k => spec_RegexOk.f k [x]) b ∧ (b = true → nodeX x) := by
  have e0 : rd_T41 [x] 0 = x := rfl
  have node := spec_l6Node_ev x hx
  have start : ∀ b, Ev (fun k => (spec_l6NodeOk.f k x.f0 x.f1 x.f2 x.f3 x.f4 x.f5 x.f6).bind fun t250 => (if t250 = true then (spec_RegexOk.l0 k [x] 1) else (some false))) b → Ev (fun k => spec_RegexOk.f k [x]) b := by
    intro b hb
    unfold spec_RegexOk.f
    simp only [show ¬ ((([x] : List S41).length : Int) < 1) by simp, if_false, show decide ((([x] : List S41).length : Int) > 120) = false from by simp]
    refine Ev.step (f := ?fa) (fun k => ?a) (Ev.step (fun k => ?b) hb)
    case a => simp only [spec_RegexOk.j0, Bool.false_eq_true, if_false]; rfl
    case b =>
      simp only [spec_RegexOk.l0, e0]
      rw [if_pos (by simp), if_pos (by omega), w64 (x := 0 + 1) (by omega) (by omega)]
      rfl
  by_cases c : Bof (nodeX x) = true
  · have hn : nodeX x := Classical.byContradiction fun h => by rw [Bof_false h] at c; cases c
    rw [c] at node
    refine ⟨true, start true (Ev.bind node ?_), fun _ => hn⟩
    simp only [if_true]
    have ht : Ev (fun k => spec_l6Tree.f k [x] 0) 0 := by
      refine Ev.step (f := fun k => spec_l6Tree.j0 k [x] 0 x.f0 false) (fun k => ?_) (Ev.later fun k => ?_)
      · simp only [spec_l6Tree.f, e0]
        rw [if_neg (by omega), if_pos (by omega), if_pos (by simp), if_neg (by omega)]
        congr 1
        simp [h2]
      · simp only [spec_l6Tree.j0, Bool.false_eq_true, if_false]
        rw [if_neg (by omega)]
    have hw : Ev (fun k => spec_l6Weight.f k [x] 0) 1 := by
      refine Ev.step (f := fun k => spec_l6Weight.j0 k [x] 1 x.f0 false x.f0 x.f1 x.f2 x.f3 x.f4 x.f5 x.f6) (fun k => ?_) (Ev.later fun k => ?_)
      · simp only [spec_l6Weight.f, e0]
        rw [if_pos (by omega), if_pos (by simp), if_neg (by omega)]
        congr 1
        simp [h2]
      · simp only [spec_l6Weight.j0, Bool.false_eq_true, if_false]
        rw [if_neg (by omega)]
        rfl
    refine Ev.step (f := fun k => (spec_l6Tree.f k [x] 0).bind fun t251 => (if t251 = 0 then ((spec_l6Weight.f k [x] 0).bind fun t252 => (some (decide (t252 ≤ 2000)))) else (some false))) (fun k => ?_) (Ev.bind ht ?_)
    · simp only [spec_RegexOk.l0]
      rw [if_neg (by simp), show wrap64 ((([x] : List S41).length : Int) - 1) = 0 from by simp [wrap64]]
    · simp only [if_true]
      exact Ev.bind hw (Ev.now _)
  · refine ⟨false, start false (Ev.bind node ?_), fun h => by cases h⟩
    rw [Bool.eq_false_iff.mpr c]
    simp only [Bool.false_eq_true, if_false]
    exact Ev.now _
theorem nodeX_turn (x : S41) (h2 : x.f0 = 2) (h : nodeX x) : nodeX ⟨x.f0, !x.f1, x.f2, x.f3, x.f4, x.f5, x.f6⟩ := by
  rcases h with q | q | q | q
  · have := q.1; omega
  · exact Or.inr (Or.inl q)
  · have := q.1; omega
  · have := q.1; omega
theorem class_turn (x : S41) (c : Int) (h2 : x.f0 = 2) (h : nodeX x) (hc : isChar c = true) : (classF ⟨x.f0, !x.f1, x.f2, x.f3, x.f4, x.f5, x.f6⟩ c != classF x c) = true := by
  unfold classF
  simp only [h2, if_true, hc]
  have h' := nodeX_turn x h2 h
  rw [h2] at h'
  have hx : nodeX x ↔ nodeX ⟨2, x.f1, x.f2, x.f3, x.f4, x.f5, x.f6⟩ := by rw [← h2]
  rw [Bof_true h', Bof_true h]
  simp only [if_true]
  cases hasC x.f2 c <;> cases x.f1 <;> rfl
end Go.Proofs.Ytomfhenoblfckaa.PK
