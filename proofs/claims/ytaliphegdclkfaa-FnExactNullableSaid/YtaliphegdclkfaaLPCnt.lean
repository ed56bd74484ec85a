/- How many nodes each node of a list of particles has. -/
import Derived.Test.YtaliphegdclkfaaPLx0
import Derived.Test.YtaliphegdclkfaaLPBase
import Derived.Test.YtaliphegdclkfaaLPIn
import Derived.Test.YtaliphegdclkfaaLPNames
import Derived.Test.YtaliphegdclkfaaLPTree
import Derived.Test.YtaliphegdclkfaaLPParts
import Derived.Test.YtaliphegdclkfaaLPPartsI
namespace Go.Proofs.Ytaliphegdclkfaa.PL
open Go.RowKit Go.Proofs.YtaliphegdclkfaaW.PrintWords Go.Proofs.YtaliphegdclkfaaW.PrintMore
set_option linter.unusedVariables false
set_option linter.unusedSimpArgs false
abbrev PNd := S44
theorem getD_some (f : Nat) : (some f).getD 0 = f := rfl
theorem ch_sum {F : Nat → Option Nat} (hle : ∀ j f, F j = some f → f ≤ j) : ∀ ks c f, ch F ks c = some f → (ks.map (fun x => x.toNat + 1 - (F x.toNat).getD 0)).sum + f = c ∧ ∀ x ∈ ks, ∃ g, F x.toNat = some g := by
  intro ks
  induction ks with
  | nil =>
    intro c f h
    simp only [ch, Option.some.injEq] at h
    exact ⟨by simp [h], fun x hx => by cases hx⟩
  | cons y ks ih =>
    intro c f h
    simp only [ch] at h
    split at h
    · rename_i hy
      obtain ⟨g, hg, h⟩ := Option.bind_eq_some_iff.mp h
      obtain ⟨h1, h2⟩ := ih g f h
      have := hle _ _ hg
      have e : y.toNat = c - 1 := by omega
      refine ⟨?_, fun x hx => ?_⟩
      · rw [List.map_cons, List.sum_cons, e, hg, getD_some]
        omega
      · rcases List.mem_cons.mp hx with rfl | hx
        · exact ⟨g, by rw [e]; exact hg⟩
        · exact h2 x hx
    · cases h
/-- How many nodes a node has, with itself. -/
def cnt (p : List PNd) (n : Nat) : Nat := n + 1 - (tree (kidsR p) n).getD 0
theorem sum_perm_rev (l : List Nat) : l.reverse.sum = l.sum := by
  induction l with
  | nil => rfl
  | cons x l ih => rw [List.reverse_cons, List.sum_append, ih]; simp; omega
theorem cnt_kids {p : List PNd} {n f : Nat} (h : tree (kidsR p) n = some f) : (((rd_T44 p (n : Int)).f2).map (fun x => cnt p x.toNat)).sum + 1 = cnt p n := by
  have h0 := h
  rw [tree_eq] at h
  obtain ⟨h1, h2⟩ := ch_sum (tree_le (kidsR p)) _ _ _ h
  have e : cnt p n = n + 1 - f := by unfold cnt; rw [h0, getD_some]
  rw [e]
  have h3 : ((kidsR p n).map (fun x => cnt p x.toNat)).sum + f = n := h1
  unfold kidsR at h3
  rw [List.map_reverse, sum_perm_rev] at h3
  omega
/-- A list of particles that is a tree. -/
structure Tr (p : List PNd) : Prop where
  len : p.length ≤ 40
  kids : ∀ n, n < p.length → ∀ x ∈ kidsR p n, 0 ≤ x ∧ x < (n : Int)
  tr : ∀ n, n < p.length → ∃ f, tree (kidsR p) n = some f
theorem Tr.of {p : List PNd} (h : partOk p) : Tr p := by
  refine ⟨h.2.1, fun n hn => (h.2.2.1 n (Nat.zero_le _) hn).2.2, fun n hn => ?_⟩
  exact tree_covers _ _ _ h.2.2.2.1 n (Nat.zero_le _) (by omega)
theorem Tr.cnt_le {p : List PNd} (h : Tr p) (n : Nat) (hn : n < p.length) : cnt p n ≤ 40 := by
  have := h.len
  unfold cnt
  omega
theorem sum_ge (l : List Int) (g : Int → Nat) (h : ∀ x ∈ l, 1 ≤ g x) : l.length ≤ (l.map g).sum := by
  induction l with
  | nil => simp
  | cons y l ih =>
    have := ih (fun x hx => h x (List.mem_cons_of_mem _ hx))
    have := h y (List.mem_cons_self ..)
    rw [List.length_cons, List.map_cons, List.sum_cons]
    omega
theorem Tr.kids2 {p : List PNd} (h : Tr p) (n : Nat) (hn : n < p.length) : ∀ x ∈ (rd_T44 p (n : Int)).f2, 0 ≤ x ∧ x < (n : Int) := fun x hx => h.kids n hn x (by unfold kidsR; exact List.mem_reverse.mpr hx)
theorem Tr.fan2 {p : List PNd} (h : Tr p) (n : Nat) (hn : n < p.length) : (rd_T44 p (n : Int)).f2.length ≤ 40 := by
  obtain ⟨f, hf⟩ := h.tr n hn
  have hc := cnt_kids hf
  have := sum_ge (rd_T44 p (n : Int)).f2 (fun x => cnt p x.toNat) (fun x hx => by
    have hx2 := h.kids2 n hn x hx
    obtain ⟨g, hg⟩ := h.tr x.toNat (by omega)
    have := cnt_kids hg
    omega)
  have := h.cnt_le n hn
  omega
end Go.Proofs.Ytaliphegdclkfaa.PL
