/- A list of particles as a tree, children first: where each one's own nodes begin, and how deep it goes. Plain; no program in sight. -/
import Derived.Test.YtaliphegdclkfaaPLx0
import Derived.Test.YtaliphegdclkfaaLPBase
namespace Go.Proofs.Ytaliphegdclkfaa.PL
open Go.RowKit Go.Proofs.YtaliphegdclkfaaW.PrintWords Go.Proofs.YtaliphegdclkfaaW.PrintMore
set_option linter.unusedVariables false
set_option linter.unusedSimpArgs false
/-- A statement's truth, as a Bool. -/
noncomputable def Bof (P : Prop) : Bool := @decide P (Classical.propDecidable P)
theorem Bof_true {P : Prop} (h : P) : Bof P = true := by unfold Bof; exact @decide_eq_true P (Classical.propDecidable P) h
theorem Bof_false {P : Prop} (h : ¬ P) : Bof P = false := by unfold Bof; exact @decide_eq_false P (Classical.propDecidable P) h
theorem Bof_congr {P Q : Prop} (h : P ↔ Q) : Bof P = Bof Q := by rw [propext h]
/-- From a node's last child to its first: each one's own nodes end where those of the next begin. What comes out is where the node's own nodes begin. -/
def ch (F : Nat → Option Nat) : List Int → Nat → Option Nat
  | [], c => some c
  | x :: ks, c => if 0 < c ∧ x = (c : Int) - 1 then (F (c - 1)).bind (ch F ks) else none
theorem ch_le {F : Nat → Option Nat} (hF : ∀ j f, F j = some f → f ≤ j) : ∀ ks c f, ch F ks c = some f → f ≤ c := by
  intro ks
  induction ks with
  | nil => intro c f h; simp only [ch, Option.some.injEq] at h; omega
  | cons x ks ih =>
    intro c f h
    simp only [ch] at h
    split at h
    · obtain ⟨g, hg, h⟩ := Option.bind_eq_some_iff.mp h
      have := hF _ _ hg
      have := ih _ _ h
      omega
    · cases h
theorem ch_congr {F G : Nat → Option Nat} (n : Nat) (hF : ∀ j, j < n → F j = G j) (hG : ∀ j f, j < n → G j = some f → f ≤ j) : ∀ ks c, c ≤ n → ch F ks c = ch G ks c := by
  intro ks
  induction ks with
  | nil => intro c _; rfl
  | cons x ks ih =>
    intro c hc
    simp only [ch]
    split
    · rename_i h
      rw [hF (c - 1) (by omega)]
      cases hg : G (c - 1) with
      | none => rfl
      | some g =>
        have := hG _ _ (by omega) hg
        exact ih g (by omega)
    · rfl
def tree (K : Nat → List Int) (n : Nat) : Option Nat := ch (fun j => if _h : j < n then tree K j else none) (K n) n
termination_by n
decreasing_by assumption
theorem tree_le (K : Nat → List Int) : ∀ n f, tree K n = some f → f ≤ n := by
  intro n
  induction n using Nat.strongRecOn with
  | ind n ih =>
    intro f h
    rw [tree] at h
    refine ch_le (fun j g hg => ?_) _ _ _ h
    split at hg
    · rename_i hj; exact ih j hj g hg
    · cases hg
theorem tree_eq (K : Nat → List Int) (n : Nat) : tree K n = ch (tree K) (K n) n := by
  rw [tree]
  refine ch_congr n (fun j hj => ?_) (fun j f _ h => tree_le K j f h) _ _ (Nat.le_refl _)
  rw [dif_pos hj]
theorem ch_covers {F : Nat → Option Nat} (n : Nat) (hle : ∀ j f, F j = some f → f ≤ j) (hP : ∀ m, m < n → ∀ f, F m = some f → ∀ j, f ≤ j → j ≤ m → ∃ g, F j = some g) : ∀ ks c f, c ≤ n → ch F ks c = some f → ∀ j, f ≤ j → j < c → ∃ g, F j = some g := by
  intro ks
  induction ks with
  | nil => intro c f _ h j h1 h2; simp only [ch, Option.some.injEq] at h; omega
  | cons x ks ih =>
    intro c f hc h j h1 h2
    simp only [ch] at h
    split at h
    · rename_i hx
      obtain ⟨g, hg, h⟩ := Option.bind_eq_some_iff.mp h
      have := hle _ _ hg
      by_cases hj : g ≤ j
      · exact hP (c - 1) (by omega) g hg j hj (by omega)
      · exact ih g f (by omega) h j h1 (by omega)
    · cases h
theorem tree_covers (K : Nat → List Int) : ∀ n f, tree K n = some f → ∀ j, f ≤ j → j ≤ n → ∃ g, tree K j = some g := by
  intro n
  induction n using Nat.strongRecOn with
  | ind n ih =>
    intro f h j h1 h2
    by_cases hj : j = n
    · exact ⟨f, hj ▸ h⟩
    rw [tree_eq] at h
    exact ch_covers n (tree_le K) (fun m hm f hf j => ih m hm f hf j) _ _ _ (Nat.le_refl _) h j h1 (by omega)
theorem ch_range {F : Nat → Option Nat} (hle : ∀ j f, F j = some f → f ≤ j) : ∀ ks c f, ch F ks c = some f → ∀ x ∈ ks, 0 ≤ x ∧ x < (c : Int) := by
  intro ks
  induction ks with
  | nil => intro c f _ x hx; cases hx
  | cons y ks ih =>
    intro c f h x hx
    simp only [ch] at h
    split at h
    · rename_i hy
      obtain ⟨g, hg, h⟩ := Option.bind_eq_some_iff.mp h
      have := hle _ _ hg
      rcases List.mem_cons.mp hx with e | e
      · omega
      · have := ih g f h x e
        omega
    · cases h
theorem tree_range (K : Nat → List Int) (n f : Nat) (h : tree K n = some f) : ∀ x ∈ K n, 0 ≤ x ∧ x < (n : Int) := by
  rw [tree_eq] at h
  exact ch_range (tree_le K) _ _ _ h
/-- The greatest of some numbers and one more. -/
def mxs : List Int → Int → Int
  | [], a => a
  | x :: l, a => mxs l (mx a x)
theorem mx_comm (a b : Int) : mx a b = mx b a := by unfold mx; split <;> split <;> omega
theorem mx_assoc (a b c : Int) : mx (mx a b) c = mx a (mx b c) := by unfold mx; repeat' split
                                                                     all_goals omega
theorem mxs_out (l : List Int) : ∀ a x, mxs l (mx a x) = mx (mxs l a) x := by
  induction l with
  | nil => intro a x; rfl
  | cons y l ih =>
    intro a x
    simp only [mxs]
    rw [← ih, mx_assoc, mx_comm x y, ← mx_assoc]
theorem mxs_append (l r : List Int) : ∀ a, mxs (l ++ r) a = mxs r (mxs l a) := by
  induction l with
  | nil => intro a; rfl
  | cons y l ih => intro a; simp only [List.cons_append, mxs]; exact ih _
theorem mxs_reverse (l : List Int) : ∀ a, mxs l.reverse a = mxs l a := by
  induction l with
  | nil => intro a; rfl
  | cons y l ih =>
    intro a
    rw [List.reverse_cons, mxs_append, ih]
    simp only [mxs]
    rw [mxs_out]
theorem mxs_le (l : List Int) (b : Int) : ∀ a, a ≤ b → (∀ x ∈ l, x ≤ b) → mxs l a ≤ b := by
  induction l with
  | nil => intro a h _; exact h
  | cons y l ih =>
    intro a h hl
    refine ih _ ?_ (fun x hx => hl x (List.mem_cons_of_mem _ hx))
    have := hl y (List.mem_cons_self ..)
    unfold mx; split <;> omega
theorem mxs_ge (l : List Int) : ∀ a, a ≤ mxs l a := by
  induction l with
  | nil => intro a; exact Int.le_refl _
  | cons y l ih =>
    intro a
    have := ih (mx a y)
    have : a ≤ mx a y := by unfold mx; split <;> omega
    simp only [mxs]
    omega
/-- How many levels a node has below it. -/
def depth (K : Nat → List Int) (n : Nat) : Int := mxs ((K n).map (fun x => if _h : x.toNat < n then depth K x.toNat + 1 else 0)) 0
termination_by n
decreasing_by assumption
theorem depth_eq (K : Nat → List Int) (n : Nat) (h : ∀ x ∈ K n, 0 ≤ x ∧ x < (n : Int)) : depth K n = mxs ((K n).map (fun x => depth K x.toNat + 1)) 0 := by
  rw [depth]
  congr 1
  apply List.map_congr_left
  intro x hx
  have := h x hx
  rw [dif_pos (by omega)]
theorem depth_range (K : Nat → List Int) : ∀ n, 0 ≤ depth K n ∧ depth K n ≤ (n : Int) := by
  intro n
  induction n using Nat.strongRecOn with
  | ind n ih =>
    rw [depth]
    refine ⟨mxs_ge _ 0, mxs_le _ _ _ (by omega) (fun y hy => ?_)⟩
    obtain ⟨x, _, rfl⟩ := List.mem_map.mp hy
    split
    · rename_i h
      have := ih _ h
      omega
    · omega
end Go.Proofs.Ytaliphegdclkfaa.PL
