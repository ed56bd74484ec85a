/- The expression that takes one text alone: the program's list of nodes and the reference's are one. -/
import Derived.Test.YtomfhenoblfckaaDoorPTx2
import Derived.Test.YtomfhenoblfckaaDoorPTx3
import Derived.Test.YtomfhenoblfckaaDoorTPBase
import Derived.Test.YtomfhenoblfckaaDoorTPIn
import Derived.Test.YtomfhenoblfckaaDoorTPRunes
import Derived.Test.YtomfhenoblfckaaDoorTPLitMarks
namespace Go.Proofs.YtomfhenoblfckaaDoor.PT
open Go.RowKit Go.Proofs.YtomfhenoblfckaaDoorW.PrintWords
set_option linter.unusedVariables false
set_option linter.unusedSimpArgs false
def clsN (c : Int) : RN := ⟨2, false, [⟨c, c⟩], 0, 0, 0, 0⟩
def seqN (n : Nat) : RN := ⟨3, false, [], wrap64 ((n : Int) - 2), wrap64 ((n : Int) - 1), 0, 0⟩
def litStep (c : Int) (first : Bool) (acc : List RN) : List RN := if first = true then acc ++ [clsN c] else (acc ++ [clsN c]) ++ [seqN (acc ++ [clsN c]).length]
def litGo : List Int → Bool → List RN → List RN
  | [], _, acc => acc
  | c :: l, first, acc => litGo l false (litStep c first acc)
def litJ (l : List Int) (b : Bool) : List RN × Bool := if b = true then ([], false) else if l.length = 0 then ([⟨1, false, [], 0, 0, 0, 0⟩], true) else (litGo l true [], true)
def litOf (p : List Int × Bool) : List RN × Bool := if p.2 = true then litJ p.1 (decide ((p.1.length : Int) > 60)) else litJ p.1 true
theorem litStep_length (c : Int) (first : Bool) (acc : List RN) : (litStep c first acc).length ≤ acc.length + 2 := by
  unfold litStep
  split <;> simp
theorem litStep_pos (c : Int) (first : Bool) (acc : List RN) : acc.length + 1 ≤ (litStep c first acc).length := by
  unfold litStep
  split <;> simp
theorem litStep_small (c : Int) (first : Bool) (acc : List RN) (h : ∀ x ∈ acc, x.f2.length ≤ 1) : ∀ x ∈ litStep c first acc, x.f2.length ≤ 1 := by
  intro x hx
  unfold litStep at hx
  split at hx
  · rcases List.mem_append.1 hx with hx | hx
    · exact h x hx
    · obtain rfl := List.mem_singleton.1 hx
      exact Nat.le_refl _
  · rcases List.mem_append.1 hx with hx | hx
    · rcases List.mem_append.1 hx with hx | hx
      · exact h x hx
      · obtain rfl := List.mem_singleton.1 hx
        exact Nat.le_refl _
    · obtain rfl := List.mem_singleton.1 hx
      exact Nat.zero_le _
theorem litGo_length : ∀ (l : List Int) (first : Bool) (acc : List RN), (litGo l first acc).length ≤ acc.length + 2 * l.length
  | [], _, _ => by simp [litGo]
  | c :: l, first, acc => by
    have h1 := litGo_length l false (litStep c first acc)
    have h2 := litStep_length c first acc
    rw [litGo, List.length_cons]
    omega
theorem litGo_small : ∀ (l : List Int) (first : Bool) (acc : List RN), (∀ x ∈ acc, x.f2.length ≤ 1) → ∀ x ∈ litGo l first acc, x.f2.length ≤ 1
  | [], _, _, h => h
  | c :: l, first, acc, h => litGo_small l false (litStep c first acc) (litStep_small c first acc h)
theorem wN_small : ∀ (l : List RN), (∀ x ∈ l, x.f2.length ≤ 1) → wN l ≤ 8 * l.length
  | [], _ => Nat.le_refl _
  | x :: l, h => by
    have h1 := wN_small l (fun y hy => h y (List.mem_cons_of_mem _ hy))
    have h2 := h x (List.mem_cons_self ..)
    rw [wN, List.length_cons]
    omega
theorem rdI_at (d : List Int) (x : Int) (l : List Int) : rd (d ++ x :: l) (d.length : Int) = x := by
  unfold rd
  simp [List.getD_eq_getElem?_getD]
theorem specL : ∀ (r d : List Int) (acc : List RN), acc.length ≤ 2 * d.length → d.length + r.length ≤ 100 → Ev (fun k => spec_Literal.l0 k (d ++ r) acc (d.length : Int)) (litGo r (decide (d.length = 0)) acc, true) := by
  intro r
  induction r with
  | nil =>
    intro d acc h1 h2
    refine Ev.later fun k => ?_
    simp only [spec_Literal.l0, List.append_nil, litGo]
    rw [if_neg (by omega)]
  | cons c r ih =>
    intro d acc h1 h2
    rw [List.length_cons] at h2
    have hl := litStep_length c (decide (d.length = 0)) acc
    have h := ih (d ++ [c]) (litStep c (decide (d.length = 0)) acc) (by rw [List.length_append, List.length_singleton]; omega) (by rw [List.length_append, List.length_singleton]; omega)
    rw [← app_one] at h
    refine Ev.step (f := fun k => spec_Literal.l0 k (d ++ c :: r) (litStep c (decide (d.length = 0)) acc) ((d ++ [c] : List Int).length : Int)) (fun k => ?_) ?_
    · simp only [spec_Literal.l0]
      rw [if_pos (lt_app _ _ _), if_pos (by omega), if_pos (by omega), Option.bind_some, rdI_at, w64 (x := (d.length : Int) + 1) (by omega) (by omega), show ((d ++ [c] : List Int).length : Int) = (d.length : Int) + 1 by simp]
      by_cases hd : d.length = 0
      · rw [if_neg (by omega), decide_eq_true hd]
        rfl
      · rw [if_pos (by omega), decide_eq_false hd, if_pos (by simp; omega)]
        rfl
    · rw [litGo]
      have e : decide ((d ++ [c] : List Int).length = 0) = false := by simp
      rw [e] at h
      exact h
theorem implL : ∀ (r d : List Int) (acc : List RN), (∀ x ∈ d ++ r, 0 ≤ x ∧ x ≤ 1114111) → acc.length ≤ 2 * d.length → d.length + r.length ≤ 100 → Ev (fun k => impl_Literal.l0 k acc (d ++ r) ((d ++ r).length : Int) (d.length : Int)) (litGo r (decide (d.length = 0)) acc, true) := by
  intro r
  induction r with
  | nil =>
    intro d acc h0 h1 h2
    refine Ev.later fun k => ?_
    simp only [impl_Literal.l0, List.append_nil, litGo]
    rw [if_neg (by omega)]
  | cons c r ih =>
    intro d acc h0 h1 h2
    rw [List.length_cons] at h2
    have hl := litStep_length c (decide (d.length = 0)) acc
    have hc := h0 c (by simp)
    have h := ih (d ++ [c]) (litStep c (decide (d.length = 0)) acc) (by rw [← app_one]; exact h0) (by rw [List.length_append, List.length_singleton]; omega) (by rw [List.length_append, List.length_singleton]; omega)
    rw [← app_one] at h
    refine Ev.step (f := fun k => impl_Literal.l0 k (litStep c (decide (d.length = 0)) acc) (d ++ c :: r) ((d ++ c :: r).length : Int) ((d ++ [c] : List Int).length : Int)) (fun k => ?_) ?_
    · simp only [impl_Literal.l0, impl_single.f]
      rw [if_pos (lt_app _ _ _), if_pos (by omega), if_pos (lt_app _ _ _), Option.bind_some, if_pos (by omega), Option.bind_some, rdI_at, w64 (x := (d.length : Int) + 1) (by omega) (by omega), show ((d ++ [c] : List Int).length : Int) = (d.length : Int) + 1 by simp, show wrap32 c = c by unfold wrap32; omega, w64 (x := c) (by omega) (by omega)]
      by_cases hd : d.length = 0
      · rw [if_neg (by omega), decide_eq_true hd]
        rfl
      · rw [if_pos (by omega), decide_eq_false hd, if_pos (by simp; omega)]
        rfl
    · rw [litGo]
      have e : decide ((d ++ [c] : List Int).length = 0) = false := by simp
      rw [e] at h
      exact h
theorem specJ (l : List Int) (b : Bool) (h : b = false → l.length ≤ 60) : Ev (fun k => spec_Literal.j0 k l b) (litJ l b) := by
  cases b with
  | true =>
    refine Ev.later fun k => ?_
    simp only [spec_Literal.j0, litJ, if_true]
  | false =>
    by_cases hl : l.length = 0
    · refine Ev.later fun k => ?_
      simp only [spec_Literal.j0, litJ, hl, Bool.false_eq_true, if_false, if_true]
      rfl
    · have h2 := specL l [] [] (by simp) (by have := h rfl; simp; omega)
      refine Ev.step (f := fun k => spec_Literal.l0 k l [] 0) (fun k => ?_) ?_
      · simp only [spec_Literal.j0, Bool.false_eq_true, if_false]
        rw [if_neg (by omega)]
      · simp only [litJ, Bool.false_eq_true, if_false, hl]
        exact h2
theorem implJ (l : List Int) (b : Bool) (h : b = false → l.length ≤ 60) (h0 : ∀ x ∈ l, 0 ≤ x ∧ x ≤ 1114111) : Ev (fun k => impl_Literal.j0 k l b) (litJ l b) := by
  cases b with
  | true =>
    refine Ev.later fun k => ?_
    simp only [impl_Literal.j0, litJ, if_true]
  | false =>
    by_cases hl : l.length = 0
    · refine Ev.later fun k => ?_
      simp only [impl_Literal.j0, litJ, hl, Bool.false_eq_true, if_false, if_true]
      rfl
    · have h2 := implL l [] [] h0 (by simp) (by have := h rfl; simp; omega)
      refine Ev.step (f := fun k => impl_Literal.l0 k [] l (l.length : Int) 0) (fun k => ?_) ?_
      · simp only [impl_Literal.j0, Bool.false_eq_true, if_false]
        rw [if_neg (by omega)]
      · simp only [litJ, Bool.false_eq_true, if_false, hl]
        exact h2
theorem spec_Literal_ev (a : ByteArray) : Ev (fun k => spec_Literal.f k a) (litOf (runesOf a)) := by
  unfold spec_Literal.f
  refine Ev.bind (spec_Runes_ev a) ?_
  unfold litOf
  by_cases c : (runesOf a).2 = true
  · simp only [c, if_true]
    exact specJ _ _ (fun h => by have := of_decide_eq_false h; omega)
  · simp only [c, if_false]
    exact specJ _ _ (fun h => by cases h)
theorem runesOf_range (a : ByteArray) : ∀ x ∈ (runesOf a).1, 0 ≤ x ∧ x ≤ 1114111 := by
  unfold runesOf
  split
  · intro x hx; cases hx
  · unfold runesR
    split
    · simp only [List.nil_append]
      exact runes_range _ _
    · intro x hx; cases hx
theorem impl_Literal_ev (a : ByteArray) : Ev (fun k => impl_Literal.f k a) (litOf (runesOf a)) := by
  unfold impl_Literal.f
  simp only [impl_Runes_eq, Option.bind_some]
  unfold litOf
  have h0 := runesOf_range a
  by_cases c : (runesOf a).2 = true
  · simp only [c, if_true]
    exact implJ _ _ (fun h => by have := of_decide_eq_false h; omega) h0
  · simp only [c, if_false]
    exact implJ _ _ (fun h => by cases h) h0
theorem litJ_small (l : List Int) (b : Bool) (h : b = false → l.length ≤ 60) : (∀ x ∈ (litJ l b).1, x.f2.length ≤ 1) ∧ (litJ l b).1.length ≤ 200 := by
  unfold litJ
  split
  · exact ⟨(fun x hx => by cases hx), by simp⟩
  · rename_i hb
    split
    · exact ⟨(fun x hx => by obtain rfl := List.mem_singleton.1 hx; exact Nat.zero_le _), by simp⟩
    · have h2 := litGo_length l true []
      have h3 := h (by simpa using hb)
      rw [List.length_nil] at h2
      exact ⟨litGo_small l true [] (fun x hx => by cases hx), by show (litGo l true []).length ≤ 200; omega⟩
theorem litOf_small (p : List Int × Bool) : (∀ x ∈ (litOf p).1, x.f2.length ≤ 1) ∧ (litOf p).1.length ≤ 200 := by
  unfold litOf
  split
  · exact litJ_small _ _ (fun h => by have := of_decide_eq_false h; omega)
  · exact litJ_small _ _ (fun h => by cases h)
end Go.Proofs.YtomfhenoblfckaaDoor.PT
