/- In a right document each item but the first lies below one ahead of it; 'has'. -/
import Derived.Test.YtbhklkpjjpkblaaDoorPNx0
import Derived.Test.YtbhklkpjjpkblaaDoorPNx14
import Derived.Test.YtbhklkpjjpkblaaDoorNPBase
import Derived.Test.YtbhklkpjjpkblaaDoorNPIn
import Derived.Test.YtbhklkpjjpkblaaDoorNPItems
import Derived.Test.YtbhklkpjjpkblaaDoorNPGood
import Derived.Test.YtbhklkpjjpkblaaDoorNPDoc
namespace Go.Proofs.YtbhklkpjjpkblaaDoor.PN
open Go.RowKit Go.Proofs.YtbhklkpjjpkblaaDoorW.PrintWords Go.Proofs.YtbhklkpjjpkblaaDoorW.PrintMore
set_option linter.unusedVariables false
set_option linter.unusedSimpArgs false
theorem docR_up (L : List S74) : ∀ d i C (s : Int), docR L d i C s = true → Inv L i C → i + d = L.length → ∀ j, i ≤ j → j < L.length → 0 ≤ (rd_T74 L (j : Int)).f0 ∧ (rd_T74 L (j : Int)).f0 < (j : Int)
  | 0, i, C, s, _, _, hi, j, h1, h2 => by omega
  | d + 1, i, C, s, h, hI, hi, j, h1, h2 => by
    rw [docR] at h
    simp only [Bool.and_eq_true] at h
    obtain ⟨_, hl, hr⟩ := h
    have hp : ¬ pop L i C = [] := by
      unfold linkB at hl
      simp only [Bool.and_eq_true, decide_eq_true_eq] at hl
      exact hl.1
    have hi2 : i < L.length := by omega
    by_cases e : j = i
    · subst e
      obtain ⟨a, T, eT⟩ := List.exists_cons_of_ne_nil hp
      have hh := drop_head _ _ a T (show (stk L j C).dropWhile (notUp L j) = a :: T from eT)
      have hu : (a : Int) = (rd_T74 L (j : Int)).f0 := by
        have := hh.1
        unfold notUp at this
        simpa using this
      have := hI.lt a (hI.stk_in a hh.2.1)
      omega
    · exact docR_up L d (i + 1) _ _ hr (hI.next hi2 hp) (by omega) j (by omega) h2
theorem docB_up (L : List S74) (h : docB L = true) : ∀ j, j < L.length → -1 ≤ (rd_T74 L (j : Int)).f0 ∧ (rd_T74 L (j : Int)).f0 < (j : Int) := by
  unfold docB at h
  simp only [Bool.and_eq_true, decide_eq_true_eq] at h
  obtain ⟨⟨h1, h2⟩, ⟨hu, hn⟩, hg, hr⟩ := h
  intro j hj
  by_cases e : j = 0
  · subst e
    have : (rd_T74 L ((0 : Nat) : Int)).f0 = -1 := hu
    omega
  · have := docR_up L _ 1 [0] _ hr (start_inv L h1 hu hn) (by omega) j (by omega) hj
    omega
theorem docB_length (L : List S74) (h : docB L = true) : L.length ≤ 200 := by
  unfold docB at h
  simp only [Bool.and_eq_true, decide_eq_true_eq] at h
  exact h.1.2
theorem impl_has_ev (L : List S74) (hs : L.length ≤ 1048576) (hx : ∀ x ∈ L, smallI x) (hw : wIs L ≤ 1048576) (n : Int) : Ev (fun k => impl_has.f k L n) (docB L && inR n 0 ((L.length : Int) - 1)) := by
  unfold impl_has.f
  refine Ev.bind (impl_DocOk_ev L hs hx hw) ?_
  rw [w64 (x := (L.length : Int) - 1) (by omega) (by omega)]
  cases docB L with
  | false => simp only [Bool.false_eq_true, if_false, Bool.false_and]; exact Ev.now _
  | true =>
    simp only [if_true, Bool.true_and, impl_in_eq, Option.bind_some]
    exact Ev.now _
end Go.Proofs.YtbhklkpjjpkblaaDoor.PN
