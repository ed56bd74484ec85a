/- What one node of a pattern must be by itself: the reference's test and the program's come to the same plain one. -/
import Derived.Test.YtomfhenoblfckaaPKx0
import Derived.Test.YtomfhenoblfckaaPKx2
import Derived.Test.YtomfhenoblfckaaPKx3
import Derived.Test.YtomfhenoblfckaaPKx4
import Derived.Test.YtomfhenoblfckaaKPBase
import Derived.Test.YtomfhenoblfckaaKPIn
import Derived.Test.YtomfhenoblfckaaKPChars
import Derived.Test.YtomfhenoblfckaaKPTree
namespace Go.Proofs.Ytomfhenoblfckaa.PK
open Go.RowKit Go.Proofs.YtomfhenoblfckaaW.PrintWords Go.Proofs.YtomfhenoblfckaaW.PrintMore
set_option linter.unusedVariables false
set_option linter.unusedSimpArgs false
def rOk (y : S68) : Prop := isChar y.f0 = true ∧ isChar y.f1 = true ∧ y.f0 ≤ y.f1
def nodeX (x : S41) : Prop :=
  (x.f0 = 1 ∧ x.f1 = false ∧ x.f2.length = 0 ∧ x.f3 = 0 ∧ x.f4 = 0 ∧ x.f5 = 0 ∧ x.f6 = 0) ∨
  (x.f0 = 2 ∧ 1 ≤ x.f2.length ∧ x.f2.length ≤ 12 ∧ x.f3 = 0 ∧ x.f4 = 0 ∧ x.f5 = 0 ∧ x.f6 = 0 ∧ ∀ y ∈ x.f2, rOk y) ∨
  ((x.f0 = 3 ∨ x.f0 = 4) ∧ x.f1 = false ∧ x.f2.length = 0 ∧ x.f5 = 0 ∧ x.f6 = 0) ∨
  (x.f0 = 5 ∧ x.f1 = false ∧ x.f2.length = 0 ∧ x.f4 = 0 ∧ 0 ≤ x.f5 ∧ x.f5 ≤ 20 ∧ (x.f6 = -1 ∨ (x.f5 ≤ x.f6 ∧ x.f6 ≤ 20)))
theorem inR_dec (a l h : Int) : inR a l h = decide (l ≤ a ∧ a ≤ h) := rfl
theorem rd_get (l : List S68) (n : Nat) (h : n < l.length) : rd_T68 l (n : Int) = l[n] := by
  unfold rd_T68
  simp [List.getD_eq_getElem?_getD, h]
theorem Bof_cons (y : S68) (l : List S68) (h : rOk y) : Bof (∀ z ∈ y :: l, rOk z) = Bof (∀ z ∈ l, rOk z) :=
  Bof_congr ⟨fun hh z hz => hh z (List.mem_cons_of_mem _ hz), fun hh z hz => by
    rcases List.mem_cons.mp hz with e | e
    · rw [e]; exact h
    · exact hh z e⟩
theorem spec_l6Node_l0_ev (x : S41) (hx : x.f2.length ≤ 140737488351232) : ∀ d n, n + d = x.f2.length → Ev (fun k => spec_l6NodeOk.l0 k (n : Int) x.f0 x.f1 x.f2 x.f3 x.f4 x.f5 x.f6) (Bof (∀ y ∈ x.f2.drop n, rOk y)) := by
  intro d
  induction d with
  | zero =>
    intro n hn
    rw [Bof_true (by rw [List.drop_eq_nil_of_le (by omega)]; intro y hy; cases hy)]
    refine Ev.later fun k => ?_
    simp only [spec_l6NodeOk.l0]
    rw [if_neg (cast_nlt (by omega))]
  | succ d ih =>
    intro n hn
    have hn2 : n < x.f2.length := by omega
    rw [List.drop_eq_getElem_cons hn2]
    by_cases h : rOk x.f2[n]
    · rw [Bof_cons _ _ h]
      refine Ev.step (fun k => ?_) (ih (n + 1) (by omega))
      simp only [spec_l6NodeOk.l0]
      rw [if_pos (cast_lt hn2), if_pos (by omega), rd_get _ _ hn2, spec_l1Char_eq, spec_l1Char_eq, h.1, h.2.1]
      simp only [Option.bind_some, if_true]
      rw [if_neg (by have := h.2.2; omega), wrap_succ (n := x.f2.length) (by omega) (cast_lt hn2) (by omega)]
      rfl
    · rw [Bof_false (fun hh => h (hh _ (List.mem_cons_self ..)))]
      refine Ev.later fun k => ?_
      simp only [spec_l6NodeOk.l0]
      rw [if_pos (cast_lt hn2), if_pos (by omega), rd_get _ _ hn2, spec_l1Char_eq, spec_l1Char_eq]
      simp only [Option.bind_some]
      cases h1 : isChar x.f2[n].f0
      · simp
      cases h2 : isChar x.f2[n].f1
      · simp
      simp only [if_true]
      rw [if_pos (by
        by_cases h3 : x.f2[n].f0 > x.f2[n].f1
        · exact h3
        · exact absurd ⟨h1, h2, by omega⟩ h)]
theorem impl_fits_l0_ev (x : S41) (hx : x.f2.length ≤ 140737488351232) (r : Bool) (hr : Ev (fun k => (impl_in.f (x.f2.length : Int) 1 12).bind fun t302 => (if t302 = true then (if x.f3 = 0 then (if x.f4 = 0 then (if x.f5 = 0 then (some (x.f6 == 0)) else (some false)) else (some false)) else (some false)) else (some false))) r) : ∀ d n, n + d = x.f2.length → Ev (fun k => impl_RNode_fits.l0 k x.f2 (x.f2.length : Int) (n : Int) x.f0 x.f1 x.f2 x.f3 x.f4 x.f5 x.f6) (Bof (∀ y ∈ x.f2.drop n, rOk y) && r) := by
  intro d
  induction d with
  | zero =>
    intro n hn
    rw [Bof_true (by rw [List.drop_eq_nil_of_le (by omega)]; intro y hy; cases hy), Bool.true_and]
    refine Ev.step (fun k => ?_) hr
    simp only [impl_RNode_fits.l0]
    rw [if_neg (cast_nlt (by omega))]
  | succ d ih =>
    intro n hn
    have hn2 : n < x.f2.length := by omega
    rw [List.drop_eq_getElem_cons hn2]
    by_cases h : rOk x.f2[n]
    · rw [Bof_cons _ _ h]
      refine Ev.step (fun k => ?_) (ih (n + 1) (by omega))
      simp only [impl_RNode_fits.l0]
      rw [if_pos (cast_lt hn2), if_pos (by omega), if_pos (cast_lt hn2), rd_get _ _ hn2, impl_isRune_eq, impl_isRune_eq, h.1, h.2.1]
      simp only [Option.bind_some, if_true]
      rw [if_neg (by have := h.2.2; omega), wrap_succ (n := x.f2.length) (by omega) (cast_lt hn2) (by omega)]
      rfl
    · rw [Bof_false (fun hh => h (hh _ (List.mem_cons_self ..))), Bool.false_and]
      refine Ev.later fun k => ?_
      simp only [impl_RNode_fits.l0]
      rw [if_pos (cast_lt hn2), if_pos (by omega), if_pos (cast_lt hn2), rd_get _ _ hn2, impl_isRune_eq, impl_isRune_eq]
      simp only [Option.bind_some]
      cases h1 : isChar x.f2[n].f0
      · simp
      cases h2 : isChar x.f2[n].f1
      · simp
      simp only [if_true]
      rw [if_pos (by
        by_cases h3 : x.f2[n].f0 > x.f2[n].f1
        · exact h3
        · exact absurd ⟨h1, h2, by omega⟩ h)]
theorem nodeX_1 (x : S41) (h : x.f0 = 1) : nodeX x ↔ (x.f1 = false ∧ x.f2.length = 0 ∧ x.f3 = 0 ∧ x.f4 = 0 ∧ x.f5 = 0 ∧ x.f6 = 0) := by
  unfold nodeX
  constructor
  · rintro (e | e | e | e) <;> first | exact e.2 | omega
  · intro e; exact .inl ⟨h, e⟩
theorem nodeX_2 (x : S41) (h : x.f0 = 2) : nodeX x ↔ (1 ≤ x.f2.length ∧ x.f2.length ≤ 12 ∧ x.f3 = 0 ∧ x.f4 = 0 ∧ x.f5 = 0 ∧ x.f6 = 0 ∧ ∀ y ∈ x.f2, rOk y) := by
  unfold nodeX
  constructor
  · rintro (e | e | e | e) <;> first | exact e.2 | omega
  · intro e; exact .inr (.inl ⟨h, e⟩)
theorem nodeX_34 (x : S41) (h : x.f0 = 3 ∨ x.f0 = 4) : nodeX x ↔ (x.f1 = false ∧ x.f2.length = 0 ∧ x.f5 = 0 ∧ x.f6 = 0) := by
  unfold nodeX
  constructor
  · rintro (e | e | e | e) <;> first | exact e.2 | omega
  · intro e; exact .inr (.inr (.inl ⟨h, e⟩))
theorem nodeX_5 (x : S41) (h : x.f0 = 5) : nodeX x ↔ (x.f1 = false ∧ x.f2.length = 0 ∧ x.f4 = 0 ∧ 0 ≤ x.f5 ∧ x.f5 ≤ 20 ∧ (x.f6 = -1 ∨ (x.f5 ≤ x.f6 ∧ x.f6 ≤ 20))) := by
  unfold nodeX
  constructor
  · rintro (e | e | e | e) <;> first | exact e.2 | omega
  · intro e; exact .inr (.inr (.inr ⟨h, e⟩))
theorem nodeX_no (x : S41) (h1 : x.f0 ≠ 1) (h2 : x.f0 ≠ 2) (h3 : x.f0 ≠ 3) (h4 : x.f0 ≠ 4) (h5 : x.f0 ≠ 5) : ¬ nodeX x := by
  rintro (e | e | e | e) <;> omega
theorem Bof_dec (P : Prop) [Decidable P] : Bof P = decide P := by
  by_cases h : P
  · rw [Bof_true h, decide_eq_true h]
  · rw [Bof_false h, decide_eq_false h]
theorem j2_ev (x : S41) (h : x.f0 ≠ 1) (h2 : x.f0 ≠ 2) (b : Bool) (hb : b = decide (x.f0 = 3 ∨ x.f0 = 4)) : Ev (fun k => spec_l6NodeOk.j2 k x.f0 b x.f0 x.f1 x.f2 x.f3 x.f4 x.f5 x.f6) (Bof (nodeX x)) := by
  refine Ev.later fun k => ?_
  simp only [spec_l6NodeOk.j2]
  by_cases c : x.f0 = 3 ∨ x.f0 = 4
  · rw [hb, decide_eq_true c, if_pos rfl, Bof_congr (nodeX_34 x c), Bof_dec]
    cases x.f1 <;> by_cases e2 : x.f2.length = 0 <;> by_cases e5 : x.f5 = 0 <;> by_cases e6 : x.f6 = 0 <;> simp [e2, e5, e6]
  · rw [hb, decide_eq_false c, if_neg (by simp)]
    by_cases c5 : x.f0 = 5
    · rw [if_pos c5, Bof_congr (nodeX_5 x c5), Bof_dec]
      simp only [spec_l1In_eq, Option.bind_some, inR_dec]
      cases x.f1 <;> by_cases e2 : x.f2.length = 0 <;> by_cases e4 : x.f4 = 0 <;> by_cases e5 : 0 ≤ x.f5 <;> by_cases e5b : x.f5 ≤ 20 <;> by_cases e6 : x.f6 = -1 <;> simp [e2, e4, e5, e5b, e6]
    · rw [if_neg c5, Bof_false (nodeX_no x h h2 (fun e => c (.inl e)) (fun e => c (.inr e)) c5)]
theorem spec_l6Node_ev (x : S41) (hx : x.f2.length ≤ 140737488351232) : Ev (fun k => spec_l6NodeOk.f k x.f0 x.f1 x.f2 x.f3 x.f4 x.f5 x.f6) (Bof (nodeX x)) := by
  unfold spec_l6NodeOk.f
  by_cases c1 : x.f0 = 1
  · simp only [if_pos c1]
    rw [Bof_congr (nodeX_1 x c1), Bof_dec]
    refine Ev.const fun k => ?_
    cases x.f1 <;> by_cases e2 : x.f2.length = 0 <;> by_cases e3 : x.f3 = 0 <;> by_cases e4 : x.f4 = 0 <;> by_cases e5 : x.f5 = 0 <;> by_cases e6 : x.f6 = 0 <;> simp [e2, e3, e4, e5, e6]
  simp only [if_neg c1]
  by_cases c2 : x.f0 = 2
  · simp only [if_pos c2]
    have bad : ¬ nodeX x → Ev (fun k => spec_l6NodeOk.j0 k true x.f0 x.f1 x.f2 x.f3 x.f4 x.f5 x.f6) (Bof (nodeX x)) := fun h => by
      rw [Bof_false h]
      exact Ev.later fun k => rfl
    by_cases e1 : (x.f2.length : Int) < 1
    · simp only [if_pos e1]
      exact bad (fun h => by have := (nodeX_2 x c2).mp h; omega)
    simp only [if_neg e1]
    by_cases e2 : (x.f2.length : Int) > 12
    · simp only [if_pos e2]
      exact bad (fun h => by have := (nodeX_2 x c2).mp h; omega)
    simp only [if_neg e2]
    by_cases e3 : x.f3 = 0
    · simp only [if_pos e3]
      by_cases e4 : x.f4 = 0
      · simp only [if_pos e4]
        by_cases e5 : x.f5 = 0
        · simp only [if_pos e5]
          by_cases e6 : x.f6 = 0
          · have : (x.f6 != 0) = false := by simp [e6]
            simp only [this]
            rw [show Bof (nodeX x) = Bof (∀ y ∈ x.f2.drop 0, rOk y) from Bof_congr ((nodeX_2 x c2).trans ⟨fun h => h.2.2.2.2.2.2, fun h => ⟨by omega, by omega, e3, e4, e5, e6, h⟩⟩)]
            exact Ev.step (fun k => rfl) (spec_l6Node_l0_ev x hx x.f2.length 0 (by omega))
          · have : (x.f6 != 0) = true := by simp [e6]
            simp only [this]
            exact bad (fun h => e6 ((nodeX_2 x c2).mp h).2.2.2.2.2.1)
        · simp only [if_neg e5]
          exact bad (fun h => e5 ((nodeX_2 x c2).mp h).2.2.2.2.1)
      · simp only [if_neg e4]
        exact bad (fun h => e4 ((nodeX_2 x c2).mp h).2.2.2.1)
    · simp only [if_neg e3]
      exact bad (fun h => e3 ((nodeX_2 x c2).mp h).2.2.1)
  simp only [if_neg c2]
  by_cases c3 : x.f0 = 3
  · simp only [if_pos c3]
    exact j2_ev x c1 c2 _ (by simp [c3])
  · simp only [if_neg c3]
    exact j2_ev x c1 c2 _ (by by_cases c4 : x.f0 = 4 <;> simp [c4, c3])
theorem impl_fits_ev (x : S41) (hx : x.f2.length ≤ 140737488351232) : Ev (fun k => impl_RNode_fits.f k x.f0 x.f1 x.f2 x.f3 x.f4 x.f5 x.f6) (Bof (nodeX x)) := by
  unfold impl_RNode_fits.f
  by_cases c2 : x.f0 = 2
  · simp only [if_pos c2]
    have h := impl_fits_l0_ev x hx (decide (1 ≤ x.f2.length ∧ x.f2.length ≤ 12 ∧ x.f3 = 0 ∧ x.f4 = 0 ∧ x.f5 = 0 ∧ x.f6 = 0)) (Ev.const fun k => by
      rw [impl_in_eq, inR_dec]
      simp only [Option.bind_some]
      by_cases e1 : (1 : Int) ≤ (x.f2.length : Int) ∧ (x.f2.length : Int) ≤ 12
      · rw [decide_eq_true e1, if_pos rfl]
        have e1a : 1 ≤ x.f2.length := by omega
        have e1b : x.f2.length ≤ 12 := by omega
        by_cases e3 : x.f3 = 0 <;> by_cases e4 : x.f4 = 0 <;> by_cases e5 : x.f5 = 0 <;> by_cases e6 : x.f6 = 0 <;> simp [e1a, e1b, e3, e4, e5, e6]
      · rw [decide_eq_false e1, if_neg (by simp), decide_eq_false (fun h => e1 (by omega))]) x.f2.length 0 (by omega)
    rw [show Bof (nodeX x) = (Bof (∀ y ∈ x.f2.drop 0, rOk y) && decide (1 ≤ x.f2.length ∧ x.f2.length ≤ 12 ∧ x.f3 = 0 ∧ x.f4 = 0 ∧ x.f5 = 0 ∧ x.f6 = 0)) from ?_]
    · exact h
    · rw [← Bof_dec, Bof_congr (nodeX_2 x c2)]
      by_cases p1 : ∀ y ∈ x.f2.drop 0, rOk y
      · rw [Bof_true p1, Bool.true_and]
        exact Bof_congr ⟨fun h => ⟨h.1, h.2.1, h.2.2.1, h.2.2.2.1, h.2.2.2.2.1, h.2.2.2.2.2.1⟩, fun h => ⟨h.1, h.2.1, h.2.2.1, h.2.2.2.1, h.2.2.2.2.1, h.2.2.2.2.2, p1⟩⟩
      · rw [Bof_false p1, Bool.false_and]
        exact Bof_false (fun h => p1 h.2.2.2.2.2.2)
  simp only [if_neg c2]
  refine Ev.const fun k => ?_
  by_cases c5 : x.f0 = 5
  · rw [if_pos c5, Bof_congr (nodeX_5 x c5), Bof_dec]
    simp only [impl_in_eq, Option.bind_some, inR_dec]
    cases x.f1 <;> by_cases e2 : x.f2.length = 0 <;> by_cases e4 : x.f4 = 0 <;> by_cases e5 : 0 ≤ x.f5 <;> by_cases e5b : x.f5 ≤ 20 <;> by_cases e6 : x.f6 = -1 <;> simp [e2, e4, e5, e5b, e6]
  rw [if_neg c5]
  by_cases c1 : x.f0 = 1
  · rw [if_pos c1, Bof_congr (nodeX_1 x c1), Bof_dec]
    cases x.f1 <;> by_cases e2 : x.f2.length = 0 <;> by_cases e3 : x.f3 = 0 <;> by_cases e4 : x.f4 = 0 <;> by_cases e5 : x.f5 = 0 <;> by_cases e6 : x.f6 = 0 <;> simp [e2, e3, e4, e5, e6]
  rw [if_neg c1]
  by_cases c3 : x.f0 = 3
  · rw [if_pos c3, Bof_congr (nodeX_34 x (.inl c3)), Bof_dec]
    cases x.f1 <;> by_cases e2 : x.f2.length = 0 <;> by_cases e5 : x.f5 = 0 <;> by_cases e6 : x.f6 = 0 <;> simp [e2, e5, e6]
  rw [if_neg c3]
  by_cases c4 : x.f0 = 4
  · rw [if_pos c4, Bof_congr (nodeX_34 x (.inr c4)), Bof_dec]
    cases x.f1 <;> by_cases e2 : x.f2.length = 0 <;> by_cases e5 : x.f5 = 0 <;> by_cases e6 : x.f6 = 0 <;> simp [e2, e5, e6]
  rw [if_neg c4, Bof_false (nodeX_no x c1 c2 c3 c4 c5)]
end Go.Proofs.Ytomfhenoblfckaa.PK
