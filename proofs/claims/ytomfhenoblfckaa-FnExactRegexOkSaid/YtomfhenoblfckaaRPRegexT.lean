/- A pattern's list of nodes as a tree, and its weight: RegexOk of the reference and of the program. -/
import Derived.Test.YtomfhenoblfckaaPRx0
import Derived.Test.YtomfhenoblfckaaPRx2
import Derived.Test.YtomfhenoblfckaaPRx3
import Derived.Test.YtomfhenoblfckaaPRx4
import Derived.Test.YtomfhenoblfckaaRPBase
import Derived.Test.YtomfhenoblfckaaRPIn
import Derived.Test.YtomfhenoblfckaaRPChars
import Derived.Test.YtomfhenoblfckaaRPTree
import Derived.Test.YtomfhenoblfckaaRPRegex
namespace Go.Proofs.Ytomfhenoblfckaa.PR
open Go.RowKit Go.Proofs.YtomfhenoblfckaaW.PrintWords Go.Proofs.YtomfhenoblfckaaW.PrintMore
set_option linter.unusedVariables false
set_option linter.unusedSimpArgs false
/-- A node's own ones, from the last to the first. -/
def kidsX (p : List S41) (i : Nat) : List Int := if (rd_T41 p (i : Int)).f0 = 3 ∨ (rd_T41 p (i : Int)).f0 = 4 then [(rd_T41 p (i : Int)).f4, (rd_T41 p (i : Int)).f3] else if (rd_T41 p (i : Int)).f0 = 5 then [(rd_T41 p (i : Int)).f3] else []
def tw : Option Nat → Int
  | none => -1
  | some f => (f : Int)
theorem tw_none : tw none = -1 := rfl
theorem tw_some (f : Nat) : tw (some f) = (f : Int) := rfl
theorem kids_34 {p : List S41} {i : Nat} (h : (rd_T41 p (i : Int)).f0 = 3 ∨ (rd_T41 p (i : Int)).f0 = 4) : kidsX p i = [(rd_T41 p (i : Int)).f4, (rd_T41 p (i : Int)).f3] := by unfold kidsX; rw [if_pos h]
theorem kids_5 {p : List S41} {i : Nat} (h : (rd_T41 p (i : Int)).f0 = 5) : kidsX p i = [(rd_T41 p (i : Int)).f3] := by unfold kidsX; rw [if_neg (by omega), if_pos h]
theorem kids_0 {p : List S41} {i : Nat} (h : ¬ ((rd_T41 p (i : Int)).f0 = 3 ∨ (rd_T41 p (i : Int)).f0 = 4)) (h5 : (rd_T41 p (i : Int)).f0 ≠ 5) : kidsX p i = [] := by unfold kidsX; rw [if_neg h, if_neg h5]
theorem l6Tree_neg (p : List S41) : Ev (fun k => spec_l6Tree.f k p (-1)) (-1) := Ev.later fun k => rfl
theorem l6Tree_f_ev (p : List S41) (hp : p.length ≤ 1000000) : ∀ n, n < p.length → Ev (fun k => spec_l6Tree.f k p (n : Int)) (tw (tree (kidsX p) n)) := by
  intro n
  induction n using Nat.strongRecOn with
  | ind n ih =>
    intro hn
    have prev : ∀ c : Nat, c ≤ n → Ev (fun k => spec_l6Tree.f k p ((c : Int) - 1)) (if 0 < c then tw (tree (kidsX p) (c - 1)) else -1) := by
      intro c hc
      by_cases h : 0 < c
      · rw [if_pos h, show (c : Int) - 1 = ((c - 1 : Nat) : Int) by omega]
        exact ih (c - 1) (by omega) (by omega)
      · rw [if_neg h, show (c : Int) - 1 = -1 by omega]
        exact l6Tree_neg p
    have main : ∀ b : Bool, b = decide ((rd_T41 p (n : Int)).f0 = 3 ∨ (rd_T41 p (n : Int)).f0 = 4) → Ev (fun k => spec_l6Tree.j0 k p (n : Int) (rd_T41 p (n : Int)).f0 b) (tw (tree (kidsX p) n)) := by
      intro b hb
      rw [tree_eq]
      by_cases c : (rd_T41 p (n : Int)).f0 = 3 ∨ (rd_T41 p (n : Int)).f0 = 4
      · rw [decide_eq_true c] at hb
        subst hb
        rw [kids_34 c]
        by_cases e : (rd_T41 p (n : Int)).f4 = (n : Int) - 1
        · refine Ev.step (f := fun k => (spec_l6Tree.f k p ((n : Int) - 1)).bind fun t382 => (if t382 < 1 then (some (-1)) else (if (rd_T41 p (n : Int)).f3 = (wrap64 (t382 - 1)) then ((spec_l6Tree.f k p (wrap64 (t382 - 1))).bind fun t384 => (some t384)) else (some (-1))))) (fun k => ?_) ?_
          · simp only [spec_l6Tree.j0, if_true]
            rw [if_pos (by omega), if_pos (cast_lt hn), w64 (x := (n : Int) - 1) (by omega) (by omega), if_pos e]
          refine Ev.bind (prev n (Nat.le_refl _)) ?_
          by_cases h0 : 0 < n
          · rw [if_pos h0]
            simp only [ch, if_pos (show 0 < n ∧ (rd_T41 p (n : Int)).f4 = (n : Int) - 1 from ⟨h0, e⟩)]
            cases ht : tree (kidsX p) (n - 1) with
            | none =>
              simp only [tw_none, Option.bind_none, show ((-1 : Int) < 1) = True from eq_true (by decide), if_true]
              exact Ev.now _
            | some g =>
              have hle := tree_le _ _ _ ht
              rw [tw_some]
              simp only [Option.bind_some]
              by_cases hg : (g : Int) < 1
              · simp only [show ((g : Int) < 1) = True from eq_true hg, if_true]
                rw [if_neg (by omega)]
                exact Ev.now _
              · simp only [show ((g : Int) < 1) = False from eq_false hg, if_false]
                rw [w64 (x := (g : Int) - 1) (by omega) (by omega)]
                by_cases ea : (rd_T41 p (n : Int)).f3 = (g : Int) - 1
                · simp only [if_pos ea, if_pos (show 0 < g ∧ (rd_T41 p (n : Int)).f3 = (g : Int) - 1 from ⟨by omega, ea⟩)]
                  refine Ev.bind (prev g (by omega)) ?_
                  rw [if_pos (by omega)]
                  cases tree (kidsX p) (g - 1) <;> exact Ev.now _
                · simp only [if_neg ea, if_neg (show ¬ (0 < g ∧ (rd_T41 p (n : Int)).f3 = (g : Int) - 1) from fun h => ea h.2)]
                  exact Ev.now _
          · rw [if_neg h0]
            simp only [ch, show ((-1 : Int) < 1) = True from eq_true (by decide), if_true]
            rw [if_neg (by omega)]
            exact Ev.now _
        · refine Ev.later fun k => ?_
          simp only [spec_l6Tree.j0, if_true, ch]
          rw [if_pos (by omega), if_pos (cast_lt hn), w64 (x := (n : Int) - 1) (by omega) (by omega), if_neg e, if_neg (fun h => e h.2)]
          rfl
      · rw [decide_eq_false c] at hb
        subst hb
        by_cases c5 : (rd_T41 p (n : Int)).f0 = 5
        · rw [kids_5 c5]
          by_cases e : (rd_T41 p (n : Int)).f3 = (n : Int) - 1
          · refine Ev.step (f := fun k => (spec_l6Tree.f k p ((n : Int) - 1)).bind fun t386 => (some t386)) (fun k => ?_) ?_
            · simp only [spec_l6Tree.j0, Bool.false_eq_true, if_false]
              rw [if_pos c5, if_pos (by omega), if_pos (cast_lt hn), w64 (x := (n : Int) - 1) (by omega) (by omega), if_pos e]
            refine Ev.bind (prev n (Nat.le_refl _)) ?_
            by_cases h0 : 0 < n
            · rw [if_pos h0]
              simp only [ch, if_pos (show 0 < n ∧ (rd_T41 p (n : Int)).f3 = (n : Int) - 1 from ⟨h0, e⟩)]
              cases tree (kidsX p) (n - 1) <;> exact Ev.now _
            · rw [if_neg h0]
              simp only [ch]
              rw [if_neg (by omega)]
              exact Ev.now _
          · refine Ev.later fun k => ?_
            simp only [spec_l6Tree.j0, Bool.false_eq_true, if_false, ch]
            rw [if_pos c5, if_pos (by omega), if_pos (cast_lt hn), w64 (x := (n : Int) - 1) (by omega) (by omega), if_neg e, if_neg (fun h => e h.2)]
            rfl
        · rw [kids_0 c c5]
          refine Ev.later fun k => ?_
          simp only [spec_l6Tree.j0, Bool.false_eq_true, if_false, ch]
          rw [if_neg c5]
          rfl
    refine Ev.step (f := fun k => spec_l6Tree.j0 k p (n : Int) (rd_T41 p (n : Int)).f0 (decide ((rd_T41 p (n : Int)).f0 = 3 ∨ (rd_T41 p (n : Int)).f0 = 4))) (fun k => ?_) (main _ rfl)
    simp only [spec_l6Tree.f]
    rw [if_neg (by omega), if_pos (by omega), if_pos (cast_lt hn)]
    by_cases c3 : (rd_T41 p (n : Int)).f0 = 3
    · rw [if_pos c3]
      congr 1
      simp [c3]
    · rw [if_neg c3]
      congr 1
      by_cases c4 : (rd_T41 p (n : Int)).f0 = 4 <;> simp [c3, c4]
/-- How many times at most a count lets its node come. -/
def times (x : S41) : Int := mx (mx 1 (x.f5 + 1)) x.f6
def weight (p : List S41) (n : Nat) : Int :=
  mn (if (rd_T41 p (n : Int)).f0 = 3 ∨ (rd_T41 p (n : Int)).f0 = 4 then
      (if _h : (rd_T41 p (n : Int)).f3.toNat < n then weight p (rd_T41 p (n : Int)).f3.toNat else 0) + (if _h : (rd_T41 p (n : Int)).f4.toNat < n then weight p (rd_T41 p (n : Int)).f4.toNat else 0)
    else if (rd_T41 p (n : Int)).f0 = 5 then (if _h : (rd_T41 p (n : Int)).f3.toNat < n then weight p (rd_T41 p (n : Int)).f3.toNat else 0) * times (rd_T41 p (n : Int)) else 1) 2001
termination_by n
decreasing_by all_goals assumption
theorem mn_le (a b : Int) : mn a b ≤ b := by unfold mn; split <;> omega
theorem mn_ge {a b c : Int} (h1 : c ≤ a) (h2 : c ≤ b) : c ≤ mn a b := by unfold mn; split <;> omega
theorem times_range {x : S41} (h5 : x.f0 = 5) (h : nodeX x) : 1 ≤ times x ∧ times x ≤ 21 := by
  have := (nodeX_5 x h5).mp h
  unfold times mx
  constructor <;> (split <;> split <;> omega)
theorem weight_upto (p : List S41) (N : Nat) (_hN : N ≤ p.length) (h : ∀ j, j < N → nodeX (rd_T41 p (j : Int))) : ∀ n, n < N → 0 ≤ weight p n ∧ weight p n ≤ 2001 := by
  intro n
  induction n using Nat.strongRecOn with
  | ind n ih =>
    intro hn
    rw [weight]
    refine ⟨mn_ge ?_ (by omega), mn_le _ _⟩
    have sub : ∀ m, 0 ≤ (if _h : m < n then weight p m else 0) := by
      intro m
      by_cases c : m < n
      · rw [dif_pos c]; exact (ih m c (by omega)).1
      · rw [dif_neg c]; exact Int.le_refl _
    by_cases c : (rd_T41 p (n : Int)).f0 = 3 ∨ (rd_T41 p (n : Int)).f0 = 4
    · rw [if_pos c]
      have h1 := sub (rd_T41 p (n : Int)).f3.toNat
      have h2 := sub (rd_T41 p (n : Int)).f4.toNat
      omega
    · rw [if_neg c]
      by_cases c5 : (rd_T41 p (n : Int)).f0 = 5
      · rw [if_pos c5]
        have := times_range c5 (h n hn)
        exact Int.mul_nonneg (sub _) (by omega)
      · rw [if_neg c5]; omega
theorem weight_range (p : List S41) (h : ∀ j, j < p.length → nodeX (rd_T41 p (j : Int))) : ∀ n, n < p.length → 0 ≤ weight p n ∧ weight p n ≤ 2001 := weight_upto p p.length (Nat.le_refl _) h
theorem weight_34 {p : List S41} {n : Nat} (c : (rd_T41 p (n : Int)).f0 = 3 ∨ (rd_T41 p (n : Int)).f0 = 4) (ha : (rd_T41 p (n : Int)).f3.toNat < n) (hb : (rd_T41 p (n : Int)).f4.toNat < n) : weight p n = mn (weight p (rd_T41 p (n : Int)).f3.toNat + weight p (rd_T41 p (n : Int)).f4.toNat) 2001 := by
  rw [weight, if_pos c, dif_pos ha, dif_pos hb]
theorem weight_5 {p : List S41} {n : Nat} (c : (rd_T41 p (n : Int)).f0 = 5) (ha : (rd_T41 p (n : Int)).f3.toNat < n) : weight p n = mn (weight p (rd_T41 p (n : Int)).f3.toNat * times (rd_T41 p (n : Int))) 2001 := by
  rw [weight, if_neg (by omega), if_pos c, dif_pos ha]
theorem weight_0 {p : List S41} {n : Nat} (c : ¬ ((rd_T41 p (n : Int)).f0 = 3 ∨ (rd_T41 p (n : Int)).f0 = 4)) (c5 : (rd_T41 p (n : Int)).f0 ≠ 5) : weight p n = 1 := by
  rw [weight, if_neg c, if_neg c5]
  rfl
theorem times_wrap {x : S41} (h5 : x.f0 = 5) (h : nodeX x) : mx (mx 1 (wrap64 (x.f5 + 1))) x.f6 = times x := by
  have := (nodeX_5 x h5).mp h
  rw [w64 (by omega) (by omega)]
  rfl
theorem mul_range {a b : Int} (h0 : 0 ≤ a) (h1 : a ≤ 2001) (h2 : 1 ≤ b) (h3 : b ≤ 21) : 0 ≤ a * b ∧ a * b ≤ 42021 := by
  refine ⟨Int.mul_nonneg h0 (by omega), ?_⟩
  have := Int.mul_le_mul h1 h3 (by omega) (by omega)
  omega
theorem l6Weight_f_ev (p : List S41) (hp : p.length ≤ 1000000) (hX : ∀ j, j < p.length → nodeX (rd_T41 p (j : Int))) (hT : ∀ j, j < p.length → ∃ g, tree (kidsX p) j = some g) : ∀ n, n < p.length → Ev (fun k => spec_l6Weight.f k p (n : Int)) (weight p n) := by
  intro n
  induction n using Nat.strongRecOn with
  | ind n ih =>
    intro hn
    obtain ⟨g, hg⟩ := hT n hn
    have hr := tree_range _ _ _ hg
    have main : ∀ b : Bool, b = decide ((rd_T41 p (n : Int)).f0 = 3 ∨ (rd_T41 p (n : Int)).f0 = 4) → Ev (fun k => spec_l6Weight.j0 k p 1 (rd_T41 p (n : Int)).f0 b (rd_T41 p (n : Int)).f0 (rd_T41 p (n : Int)).f1 (rd_T41 p (n : Int)).f2 (rd_T41 p (n : Int)).f3 (rd_T41 p (n : Int)).f4 (rd_T41 p (n : Int)).f5 (rd_T41 p (n : Int)).f6) (weight p n) := by
      intro b hb
      by_cases c : (rd_T41 p (n : Int)).f0 = 3 ∨ (rd_T41 p (n : Int)).f0 = 4
      · rw [decide_eq_true c] at hb
        subst hb
        rw [kids_34 c] at hr
        have h3 := hr (rd_T41 p (n : Int)).f3 (by simp)
        have h4 := hr (rd_T41 p (n : Int)).f4 (by simp)
        have r3 := weight_range p hX (rd_T41 p (n : Int)).f3.toNat (by omega)
        have r4 := weight_range p hX (rd_T41 p (n : Int)).f4.toNat (by omega)
        have i3 := ih (rd_T41 p (n : Int)).f3.toNat (by omega) (by omega)
        have i4 := ih (rd_T41 p (n : Int)).f4.toNat (by omega) (by omega)
        rw [Int.toNat_of_nonneg h3.1] at i3
        rw [Int.toNat_of_nonneg h4.1] at i4
        rw [weight_34 c (by omega) (by omega)]
        refine Ev.step (f := fun k => (spec_l6Weight.f k p (rd_T41 p (n : Int)).f3).bind fun t389 => ((spec_l6Weight.f k p (rd_T41 p (n : Int)).f4).bind fun t390 => (some (mn (wrap64 (t389 + t390)) 2001)))) (fun k => ?_) (Ev.bind i3 (Ev.bind i4 ?_))
        · simp only [spec_l6Weight.j0, if_true]
        · rw [w64 (by omega) (by omega)]
          exact Ev.now _
      · rw [decide_eq_false c] at hb
        subst hb
        by_cases c5 : (rd_T41 p (n : Int)).f0 = 5
        · rw [kids_5 c5] at hr
          have h3 := hr (rd_T41 p (n : Int)).f3 (by simp)
          have r3 := weight_range p hX (rd_T41 p (n : Int)).f3.toNat (by omega)
          have i3 := ih (rd_T41 p (n : Int)).f3.toNat (by omega) (by omega)
          rw [Int.toNat_of_nonneg h3.1] at i3
          rw [weight_5 c5 (by omega)]
          have ht := times_range c5 (hX n hn)
          have hm := mul_range r3.1 r3.2 ht.1 ht.2
          refine Ev.step (f := fun k => (spec_l6Weight.f k p (rd_T41 p (n : Int)).f3).bind fun t391 => (some (mn (wrap64 (t391 * (mx (mx 1 (wrap64 ((rd_T41 p (n : Int)).f5 + 1))) (rd_T41 p (n : Int)).f6))) 2001))) (fun k => ?_) (Ev.bind i3 ?_)
          · simp only [spec_l6Weight.j0, Bool.false_eq_true, if_false]
            rw [if_pos c5]
          · rw [times_wrap c5 (hX n hn), w64 (by omega) (by omega)]
            exact Ev.now _
        · rw [weight_0 c c5]
          refine Ev.later fun k => ?_
          simp only [spec_l6Weight.j0, Bool.false_eq_true, if_false]
          rw [if_neg c5]
          rfl
    refine Ev.step (f := fun k => spec_l6Weight.j0 k p 1 (rd_T41 p (n : Int)).f0 (decide ((rd_T41 p (n : Int)).f0 = 3 ∨ (rd_T41 p (n : Int)).f0 = 4)) (rd_T41 p (n : Int)).f0 (rd_T41 p (n : Int)).f1 (rd_T41 p (n : Int)).f2 (rd_T41 p (n : Int)).f3 (rd_T41 p (n : Int)).f4 (rd_T41 p (n : Int)).f5 (rd_T41 p (n : Int)).f6) (fun k => ?_) (main _ rfl)
    simp only [spec_l6Weight.f]
    rw [if_pos (by omega), if_pos (cast_lt hn)]
    by_cases c3 : (rd_T41 p (n : Int)).f0 = 3
    · rw [if_pos c3]
      congr 1
      simp [c3]
    · rw [if_neg c3]
      congr 1
      by_cases c4 : (rd_T41 p (n : Int)).f0 = 4 <;> simp [c3, c4]
def endX (p : List S41) : Prop := tree (kidsX p) (p.length - 1) = some 0 ∧ weight p (p.length - 1) ≤ 2000
def regexX (p : List S41) : Prop := 1 ≤ p.length ∧ p.length ≤ 120 ∧ (∀ j, 0 ≤ j → j < p.length → nodeX (rd_T41 p (j : Int))) ∧ endX p
def nodeXI (p : List S41) (i : Nat) : Prop := nodeX (rd_T41 p (i : Int)) ∧ tree (kidsX p) i ≠ none
theorem nodesX_iff (p : List S41) (h1 : 1 ≤ p.length) : ((∀ j, 0 ≤ j → j < p.length → nodeX (rd_T41 p (j : Int))) ∧ endX p) ↔ ((∀ j, 0 ≤ j → j < p.length → nodeXI p j) ∧ endX p) := by
  constructor
  · rintro ⟨h, e⟩
    refine ⟨fun j h0 hj => ⟨h j h0 hj, ?_⟩, e⟩
    obtain ⟨g, hg⟩ := tree_covers _ _ _ e.1 j (by omega) (by omega)
    rw [hg]
    exact fun h => by cases h
  · rintro ⟨h, e⟩
    exact ⟨fun j h0 hj => (h j h0 hj).1, e⟩
theorem spec_Regex_l0_ev (p : List S41) (h1 : 1 ≤ p.length) (hp : p.length ≤ 1000) (hk : ∀ j : Nat, (rd_T41 p (j : Int)).f2.length ≤ 140737488351232) : ∀ d i, i + d = p.length → (∀ j, j < i → nodeX (rd_T41 p (j : Int))) → Ev (fun k => spec_RegexOk.l0 k p (i : Int)) (Bof ((∀ j, i ≤ j → j < p.length → nodeX (rd_T41 p (j : Int))) ∧ endX p)) := by
  intro d
  induction d with
  | zero =>
    intro i hi hS
    rw [show Bof ((∀ j, i ≤ j → j < p.length → nodeX (rd_T41 p (j : Int))) ∧ endX p) = Bof (endX p) from Bof_congr ⟨fun h => h.2, fun h => ⟨fun j _ _ => by omega, h⟩⟩]
    refine Ev.step (f := fun k => (spec_l6Tree.f k p ((p.length - 1 : Nat) : Int)).bind fun t394 => (if t394 = 0 then ((spec_l6Weight.f k p ((p.length - 1 : Nat) : Int)).bind fun t395 => (some (decide (t395 ≤ 2000)))) else (some false))) (fun k => ?_) ?_
    · simp only [spec_RegexOk.l0]
      rw [if_neg (cast_nlt (by omega)), w64 (x := (p.length : Int) - 1) (by omega) (by omega), show (p.length : Int) - 1 = ((p.length - 1 : Nat) : Int) by omega]
    refine Ev.bind (l6Tree_f_ev p (by omega) (p.length - 1) (by omega)) ?_
    by_cases c : tree (kidsX p) (p.length - 1) = some 0
    · rw [c]
      simp only [tw_some, show (((0 : Nat) : Int) = 0) = True from eq_true rfl, if_true]
      refine Ev.bind (l6Weight_f_ev p (by omega) (fun j hj => hS j (by omega)) (fun j hj => tree_covers _ _ _ c j (by omega) (by omega)) (p.length - 1) (by omega)) ?_
      by_cases kd : weight p (p.length - 1) ≤ 2000
      · rw [Bof_true ⟨c, kd⟩, decide_eq_true kd]
        exact Ev.now _
      · rw [Bof_false (fun h => kd h.2), decide_eq_false kd]
        exact Ev.now _
    · have hne : ¬ tw (tree (kidsX p) (p.length - 1)) = 0 := by
        cases ht : tree (kidsX p) (p.length - 1) with
        | none => simp [tw]
        | some g =>
          simp only [tw]
          intro e
          exact c (by rw [ht]; congr 1; omega)
      simp only [if_neg hne]
      rw [Bof_false (fun h => c h.1)]
      exact Ev.now _
  | succ d ih =>
    intro i hi hS
    refine Ev.step (f := fun k => (spec_l6NodeOk.f k (rd_T41 p (i : Int)).f0 (rd_T41 p (i : Int)).f1 (rd_T41 p (i : Int)).f2 (rd_T41 p (i : Int)).f3 (rd_T41 p (i : Int)).f4 (rd_T41 p (i : Int)).f5 (rd_T41 p (i : Int)).f6).bind fun t393 => (if t393 = true then (spec_RegexOk.l0 k p ((i + 1 : Nat) : Int)) else (some false))) (fun k => ?_) ?_
    · simp only [spec_RegexOk.l0]
      rw [if_pos (cast_lt (by omega)), if_pos (by omega), wrap_succ (n := p.length) (by omega) (cast_lt (by omega)) (by omega)]
      rfl
    refine Ev.bind (spec_l6Node_ev _ (hk i)) ?_
    by_cases h : nodeX (rd_T41 p (i : Int))
    · rw [Bof_true h]
      simp only [if_true]
      rw [show Bof ((∀ j, i ≤ j → j < p.length → nodeX (rd_T41 p (j : Int))) ∧ endX p) = Bof ((∀ j, i + 1 ≤ j → j < p.length → nodeX (rd_T41 p (j : Int))) ∧ endX p) from Bof_congr ⟨fun hh => ⟨fun j h0 hj => hh.1 j (by omega) hj, hh.2⟩, fun hh => ⟨fun j h0 hj => by
        by_cases ej : j = i
        · subst ej; exact h
        · exact hh.1 j (by omega) hj, hh.2⟩⟩]
      refine ih (i + 1) (by omega) (fun j hj => ?_)
      by_cases ej : j = i
      · subst ej; exact h
      · exact hS j (by omega)
    · rw [Bof_false h, Bof_false (fun hh => h (hh.1 i (Nat.le_refl _) (by omega)))]
      simp only [Bool.false_eq_true, if_false]
      exact Ev.now _
theorem spec_RegexOk_ev (p : List S41) (hk : ∀ j : Nat, (rd_T41 p (j : Int)).f2.length ≤ 140737488351232) : Ev (fun k => spec_RegexOk.f k p) (Bof (regexX p)) := by
  unfold spec_RegexOk.f
  by_cases c : (p.length : Int) < 1
  · simp only [c, if_true]
    rw [Bof_false (fun h => by have := h.1; omega)]
    exact Ev.later fun k => rfl
  simp only [c, if_false]
  by_cases c2 : (p.length : Int) > 120
  · rw [Bof_false (fun h => by have := h.2.1; omega)]
    refine Ev.later fun k => ?_
    simp only [spec_RegexOk.j0, decide_eq_true c2, if_true]
  · rw [show Bof (regexX p) = Bof ((∀ j, 0 ≤ j → j < p.length → nodeX (rd_T41 p (j : Int))) ∧ endX p) from Bof_congr ⟨fun h => h.2.2, fun h => ⟨by omega, by omega, h⟩⟩]
    refine Ev.step (fun k => ?_) (spec_Regex_l0_ev p (by omega) (by omega) hk p.length 0 (by omega) (fun j hj => by omega))
    simp only [spec_RegexOk.j0, decide_eq_false c2]
    rfl
end Go.Proofs.Ytomfhenoblfckaa.PR
