/- RegexOk of the program comes to the plain test. -/
import Derived.Test.YtomfhenoblfckaaPRx0
import Derived.Test.YtomfhenoblfckaaPRx5
import Derived.Test.YtomfhenoblfckaaPRx6
import Derived.Test.YtomfhenoblfckaaRPBase
import Derived.Test.YtomfhenoblfckaaRPIn
import Derived.Test.YtomfhenoblfckaaRPChars
import Derived.Test.YtomfhenoblfckaaRPTree
import Derived.Test.YtomfhenoblfckaaRPRegex
import Derived.Test.YtomfhenoblfckaaRPRegexT
namespace Go.Proofs.Ytomfhenoblfckaa.PR
open Go.RowKit Go.Proofs.YtomfhenoblfckaaW.PrintWords Go.Proofs.YtomfhenoblfckaaW.PrintMore
set_option linter.unusedVariables false
set_option linter.unusedSimpArgs false
theorem rd_set (l : List Int) (i j : Nat) (v : Int) (h : i < l.length) : rd (l.set i v) (j : Int) = if j = i then v else rd l (j : Int) := by
  unfold rd
  simp only [Int.toNat_natCast, List.getD_eq_getElem?_getD, List.getElem?_set]
  by_cases c : i = j
  · subst c; simp [h]
  · rw [if_neg c, if_neg (fun e => c e.symm)]
/-- What the two rows say when the nodes before i are done. -/
def goodX (p : List S41) (i : Nat) (a b : List Int) : Prop := a.length = p.length ∧ b.length = p.length ∧ (∀ j, j < i → tree (kidsX p) j = some (rd a (j : Int)).toNat ∧ 0 ≤ rd a (j : Int)) ∧ ∀ j, j < i → rd b (j : Int) = weight p j
theorem goodX_next {p : List S41} {i : Nat} {a b : List Int} (hi : i < p.length) (hg : goodX p i a b) (f : Nat) (ht : tree (kidsX p) i = some f) (v w : Int) (hv : v = (f : Int)) (hw : w = weight p i) (u : Int) : goodX p (i + 1) (a.set i v) ((b.set i u).set i w) := by
  have hla := hg.1
  have hlb := hg.2.1
  refine ⟨by rw [List.length_set]; exact hla, by rw [List.length_set, List.length_set]; exact hlb, fun j hj => ?_, fun j hj => ?_⟩
  · rw [rd_set _ _ _ _ (by omega)]
    by_cases e : j = i
    · subst e
      rw [if_pos rfl, ht, hv]
      exact ⟨by simp, by omega⟩
    · rw [if_neg e]
      exact hg.2.2.1 j (by omega)
  · rw [rd_set _ _ _ _ (by rw [List.length_set]; omega)]
    by_cases e : j = i
    · subst e
      rw [if_pos rfl, hw]
    · rw [if_neg e, rd_set _ _ _ _ (by omega), if_neg e]
      exact hg.2.2.2 j (by omega)
theorem impl_j1_ev (p : List S41) (hp : p.length ≤ 1000) (i : Nat) (hi : i < p.length) (hX : ∀ j, j ≤ i → nodeX (rd_T41 p (j : Int))) (a b : List Int) (hg : goodX p i a b) (ha : rd a (i : Int) = (i : Int)) (hb : rd b (i : Int) = 1) (r : Bool)
    (hgo : ∀ a' b', tree (kidsX p) i ≠ none → goodX p (i + 1) a' b' → Ev (fun k => impl_RegexOk.l0 k p a' b' p (p.length : Int) ((i + 1 : Nat) : Int)) r)
    (hno : tree (kidsX p) i = none → r = false) (y : Bool) (hy : y = decide ((rd_T41 p (i : Int)).f0 = 3 ∨ (rd_T41 p (i : Int)).f0 = 4)) :
    Ev (fun k => impl_RegexOk.j1 k p a b (i : Int) (i : Int) p (p.length : Int) (i : Int) (rd_T41 p (i : Int)).f0 y (rd_T41 p (i : Int)).f0 (rd_T41 p (i : Int)).f1 (rd_T41 p (i : Int)).f2 (rd_T41 p (i : Int)).f3 (rd_T41 p (i : Int)).f4 (rd_T41 p (i : Int)).f5 (rd_T41 p (i : Int)).f6) r := by
  have hla := hg.1
  have hlb := hg.2.1
  have hwi : wrap64 ((i : Int) + 1) = ((i + 1 : Nat) : Int) := by rw [w64 (by omega) (by omega)]; omega
  have hwm : wrap64 ((i : Int) - 1) = (i : Int) - 1 := w64 (by omega) (by omega)
  have wr : ∀ j, j < i → 0 ≤ weight p j ∧ weight p j ≤ 2001 := by
    intro j hj
    exact weight_upto p (i + 1) (by omega) (fun m hm => hX m (by omega)) j (by omega)
  by_cases c : (rd_T41 p (i : Int)).f0 = 3 ∨ (rd_T41 p (i : Int)).f0 = 4
  · rw [decide_eq_true c] at hy
    subst hy
    have hk := kids_34 c
    have e0 := tree_eq (kidsX p) i
    rw [hk] at e0
    simp only [ch] at e0
    by_cases h0 : i = 0
    · rw [if_neg (by omega)] at e0
      rw [hno e0]
      refine Ev.later fun k => ?_
      simp only [impl_RegexOk.j1, if_true]
      rw [if_pos (by omega)]
    by_cases e4 : (rd_T41 p (i : Int)).f4 = (i : Int) - 1
    · rw [if_pos ⟨by omega, e4⟩] at e0
      have ht := hg.2.2.1 (i - 1) (by omega)
      rw [ht.1] at e0
      simp only [Option.bind_some] at e0
      have e4' : (rd_T41 p (i : Int)).f4 = ((i - 1 : Nat) : Int) := by omega
      have hle := tree_le _ _ _ ht.1
      by_cases g0 : rd a ((i - 1 : Nat) : Int) = 0
      · rw [if_neg (by omega)] at e0
        rw [hno e0]
        refine Ev.later fun k => ?_
        simp only [impl_RegexOk.j1, if_true]
        rw [if_neg (by omega), hwm, if_pos e4, e4', if_pos (by omega), if_pos (by omega), if_pos g0]
      · by_cases e3 : (rd_T41 p (i : Int)).f3 = rd a ((i - 1 : Nat) : Int) - 1
        · rw [if_pos ⟨by omega, by omega⟩] at e0
          have h3n : ((rd_T41 p (i : Int)).f3.toNat : Int) = (rd_T41 p (i : Int)).f3 := Int.toNat_of_nonneg (by omega)
          have ht3 := hg.2.2.1 (rd_T41 p (i : Int)).f3.toNat (by omega)
          have hd3 := hg.2.2.2 (rd_T41 p (i : Int)).f3.toNat (by omega)
          have hd4 := hg.2.2.2 (i - 1) (by omega)
          rw [h3n] at hd3 ht3
          rw [show (rd a ((i - 1 : Nat) : Int)).toNat - 1 = (rd_T41 p (i : Int)).f3.toNat by omega, ht3.1] at e0
          simp only [Option.bind_some] at e0
          have w3 := wr (rd_T41 p (i : Int)).f3.toNat (by omega)
          have w4 := wr (i - 1) (by omega)
          refine Ev.step (fun k => ?_) (hgo _ _ (by rw [e0]; exact fun h => by cases h) (goodX_next hi hg _ e0 (rd a (rd_T41 p (i : Int)).f3) (mn (weight p (rd_T41 p (i : Int)).f3.toNat + weight p (i - 1)) 2001) (by omega) (by rw [weight_34 c (by omega) (by omega), show (rd_T41 p (i : Int)).f4.toNat = i - 1 by omega]) (weight p (rd_T41 p (i : Int)).f3.toNat + weight p (i - 1))))
          simp only [impl_RegexOk.j1, if_true]
          rw [if_neg (by omega), hwm, if_pos e4, e4', if_pos (by omega), if_pos (by omega), if_neg g0, w64 (x := rd a ((i - 1 : Nat) : Int) - 1) (by omega) (by omega), if_pos e3, if_pos (by omega), if_pos (by omega), if_pos (by omega), if_pos (by omega), if_pos (by omega), if_pos (by omega), if_pos (by omega), hd3, hd4, w64 (x := weight p (rd_T41 p (i : Int)).f3.toNat + weight p (i - 1)) (by omega) (by omega), hwi, Int.toNat_natCast]
        · rw [if_neg (by omega)] at e0
          rw [hno e0]
          refine Ev.later fun k => ?_
          simp only [impl_RegexOk.j1, if_true]
          rw [if_neg (by omega), hwm, if_pos e4, e4', if_pos (by omega), if_pos (by omega), if_neg g0, w64 (x := rd a ((i - 1 : Nat) : Int) - 1) (by omega) (by omega), if_neg e3]
    · rw [if_neg (fun h => e4 h.2)] at e0
      rw [hno e0]
      refine Ev.later fun k => ?_
      simp only [impl_RegexOk.j1, if_true]
      rw [if_neg (by omega), hwm, if_neg e4]
  · rw [decide_eq_false c] at hy
    subst hy
    by_cases c5 : (rd_T41 p (i : Int)).f0 = 5
    · have hk := kids_5 c5
      have e0 := tree_eq (kidsX p) i
      rw [hk] at e0
      simp only [ch] at e0
      by_cases h0 : i = 0
      · rw [if_neg (by omega)] at e0
        rw [hno e0]
        refine Ev.later fun k => ?_
        simp only [impl_RegexOk.j1, Bool.false_eq_true, if_false]
        rw [if_pos c5, if_pos (by omega)]
      by_cases e3 : (rd_T41 p (i : Int)).f3 = (i : Int) - 1
      · rw [if_pos ⟨by omega, e3⟩] at e0
        have ht := hg.2.2.1 (i - 1) (by omega)
        have hd := hg.2.2.2 (i - 1) (by omega)
        rw [ht.1] at e0
        simp only [Option.bind_some] at e0
        have e3' : (rd_T41 p (i : Int)).f3 = ((i - 1 : Nat) : Int) := by omega
        have w3 := wr (i - 1) (by omega)
        have htm := times_range c5 (hX i (Nat.le_refl _))
        have hm := mul_range w3.1 w3.2 htm.1 htm.2
        refine Ev.step (fun k => ?_) (hgo _ _ (by rw [e0]; exact fun h => by cases h) (goodX_next hi hg _ e0 (rd a ((i - 1 : Nat) : Int)) (mn (weight p (i - 1) * times (rd_T41 p (i : Int))) 2001) (by omega) (by rw [weight_5 c5 (by omega), show (rd_T41 p (i : Int)).f3.toNat = i - 1 by omega]) (weight p (i - 1) * times (rd_T41 p (i : Int)))))
        simp only [impl_RegexOk.j1, Bool.false_eq_true, if_false]
        rw [if_pos c5, if_neg (by omega), hwm, if_pos e3, times_wrap c5 (hX i (Nat.le_refl _)), e3', if_pos (by omega), if_pos (by omega), if_pos (by omega), if_pos (by omega), if_pos (by omega), if_pos (by omega), hd, w64 (x := weight p (i - 1) * times (rd_T41 p (i : Int))) (by omega) (by omega), hwi, Int.toNat_natCast]
      · rw [if_neg (fun h => e3 h.2)] at e0
        rw [hno e0]
        refine Ev.later fun k => ?_
        simp only [impl_RegexOk.j1, Bool.false_eq_true, if_false]
        rw [if_pos c5, if_neg (by omega), hwm, if_neg e3]
    · have e0 := tree_eq (kidsX p) i
      rw [kids_0 c c5] at e0
      simp only [ch] at e0
      have hself : ∀ (l : List Int) (v : Int), rd l (i : Int) = v → i < l.length → l.set i v = l := by
        intro l v hv hl
        subst hv
        apply List.ext_getElem
        · rw [List.length_set]
        · intro j h1 h2
          rw [List.getElem_set]
          split
          · rename_i e
            subst e
            unfold rd
            simp [List.getD_eq_getElem?_getD, hl]
          · rfl
      have hn := goodX_next hi hg i e0 (i : Int) (mn (rd b (i : Int)) 2001) rfl (by rw [weight_0 c c5, hb]; rfl) 1
      rw [hself a _ ha (by omega), hself b _ hb (by omega)] at hn
      refine Ev.step (fun k => ?_) (hgo _ _ (by rw [e0]; exact fun h => by cases h) hn)
      simp only [impl_RegexOk.j1, Bool.false_eq_true, if_false]
      rw [if_neg c5, if_pos (by omega), if_pos (by omega), hwi, Int.toNat_natCast]
theorem impl_Regex_l0_ev (p : List S41) (h1 : 1 ≤ p.length) (hp : p.length ≤ 1000) (hk : ∀ j : Nat, (rd_T41 p (j : Int)).f2.length ≤ 140737488351232) : ∀ d i, i + d = p.length → ∀ a b, goodX p i a b → (∀ j, j < i → nodeX (rd_T41 p (j : Int))) → Ev (fun k => impl_RegexOk.l0 k p a b p (p.length : Int) (i : Int)) (Bof ((∀ j, i ≤ j → j < p.length → nodeXI p j) ∧ endX p)) := by
  intro d
  induction d with
  | zero =>
    intro i hi a b hg _
    have ht := hg.2.2.1 (p.length - 1) (by omega)
    have hd := hg.2.2.2 (p.length - 1) (by omega)
    have hla := hg.1
    have hlb := hg.2.1
    rw [show Bof ((∀ j, i ≤ j → j < p.length → nodeXI p j) ∧ endX p) = Bof (endX p) from Bof_congr ⟨fun h => h.2, fun h => ⟨fun j _ _ => by omega, h⟩⟩]
    refine Ev.later fun k => ?_
    simp only [impl_RegexOk.l0]
    rw [if_neg (cast_nlt (by omega)), w64 (x := (p.length : Int) - 1) (by omega) (by omega), show (p.length : Int) - 1 = ((p.length - 1 : Nat) : Int) by omega, if_pos (by omega), if_pos (by omega)]
    by_cases c : rd a ((p.length - 1 : Nat) : Int) = 0
    · have ht0 : tree (kidsX p) (p.length - 1) = some 0 := by rw [ht.1, c]; rfl
      rw [if_pos c, if_pos (by omega), hd]
      by_cases kd : weight p (p.length - 1) ≤ 2000
      · rw [Bof_true ⟨ht0, kd⟩, decide_eq_true kd]
      · rw [Bof_false (fun h => kd h.2), decide_eq_false kd]
    · rw [if_neg c, Bof_false (fun h => by
        have := h.1
        rw [ht.1] at this
        have := Option.some.inj this
        omega)]
  | succ d ih =>
    intro i hi a b hg hS
    have hla := hg.1
    have hlb := hg.2.1
    have hg' : goodX p i (a.set i (i : Int)) (b.set i 1) := by
      refine ⟨by rw [List.length_set]; exact hla, by rw [List.length_set]; exact hlb, fun j hj => ?_, fun j hj => ?_⟩
      · rw [rd_set _ _ _ _ (by omega), if_neg (by omega)]; exact hg.2.2.1 j hj
      · rw [rd_set _ _ _ _ (by omega), if_neg (by omega)]; exact hg.2.2.2 j hj
    refine Ev.step (f := fun k => (impl_RNode_fits.f k (rd_T41 p (i : Int)).f0 (rd_T41 p (i : Int)).f1 (rd_T41 p (i : Int)).f2 (rd_T41 p (i : Int)).f3 (rd_T41 p (i : Int)).f4 (rd_T41 p (i : Int)).f5 (rd_T41 p (i : Int)).f6).bind fun t437 => (if t437 = true then (impl_RegexOk.j1 k p (a.set i (i : Int)) (b.set i 1) (i : Int) (i : Int) p (p.length : Int) (i : Int) (rd_T41 p (i : Int)).f0 (decide ((rd_T41 p (i : Int)).f0 = 3 ∨ (rd_T41 p (i : Int)).f0 = 4)) (rd_T41 p (i : Int)).f0 (rd_T41 p (i : Int)).f1 (rd_T41 p (i : Int)).f2 (rd_T41 p (i : Int)).f3 (rd_T41 p (i : Int)).f4 (rd_T41 p (i : Int)).f5 (rd_T41 p (i : Int)).f6) else (some false))) (fun k => ?_) ?_
    · simp only [impl_RegexOk.l0]
      rw [if_pos (cast_lt (by omega)), if_pos (by omega), if_pos (cast_lt (by omega)), if_pos (by omega)]
      simp only [Option.bind_some, Int.toNat_natCast]
      rw [if_pos (by omega)]
      by_cases c3 : (rd_T41 p (i : Int)).f0 = 3
      · simp only [if_pos c3, show decide ((rd_T41 p (i : Int)).f0 = 3 ∨ (rd_T41 p (i : Int)).f0 = 4) = true from decide_eq_true (.inl c3), show ((rd_T41 p (i : Int)).f0 == 3) = true from by simp [c3]]
      · have e : decide ((rd_T41 p (i : Int)).f0 = 3 ∨ (rd_T41 p (i : Int)).f0 = 4) = ((rd_T41 p (i : Int)).f0 == 4) := by by_cases c4 : (rd_T41 p (i : Int)).f0 = 4 <;> simp [c3, c4]
        simp only [if_neg c3, e]
    refine Ev.bind (impl_fits_ev _ (hk i)) ?_
    by_cases hf : nodeX (rd_T41 p (i : Int))
    · rw [Bof_true hf]
      simp only [if_true]
      refine impl_j1_ev p hp i (by omega) (fun j hj => ?_) _ _ hg' (by rw [rd_set _ _ _ _ (by omega), if_pos rfl]) (by rw [rd_set _ _ _ _ (by omega), if_pos rfl]) _ (fun a' b' hne hn => ?_) (fun hch => ?_) _ rfl
      · by_cases ej : j = i
        · subst ej; exact hf
        · exact hS j (by omega)
      · rw [show Bof ((∀ j, i ≤ j → j < p.length → nodeXI p j) ∧ endX p) = Bof ((∀ j, i + 1 ≤ j → j < p.length → nodeXI p j) ∧ endX p) from Bof_congr ⟨fun h => ⟨fun j h0 hj => h.1 j (by omega) hj, h.2⟩, fun h => ⟨fun j h0 hj => by
          by_cases ej : j = i
          · subst ej; exact ⟨hf, hne⟩
          · exact h.1 j (by omega) hj, h.2⟩⟩]
        refine ih (i + 1) (by omega) a' b' hn (fun j hj => ?_)
        by_cases ej : j = i
        · subst ej; exact hf
        · exact hS j (by omega)
      · exact Bof_false (fun h => (h.1 i (Nat.le_refl _) (by omega)).2 hch)
    · rw [Bof_false hf, Bof_false (fun h => hf (h.1 i (Nat.le_refl _) (by omega)).1)]
      simp only [Bool.false_eq_true, if_false]
      exact Ev.now _
theorem impl_RegexOk_ev (p : List S41) (hk : ∀ j : Nat, (rd_T41 p (j : Int)).f2.length ≤ 140737488351232) : Ev (fun k => impl_RegexOk.f k p) (Bof (regexX p)) := by
  unfold impl_RegexOk.f
  simp only [impl_in_eq, Option.bind_some]
  by_cases c : inR (p.length : Int) 1 120 = true
  · have c' := inR_true.mp c
    rw [show Bof (regexX p) = Bof ((∀ j, 0 ≤ j → j < p.length → nodeXI p j) ∧ endX p) from Bof_congr ⟨fun h => (nodesX_iff p (by omega)).mp h.2.2, fun h => ⟨by omega, by omega, (nodesX_iff p (by omega)).mpr h⟩⟩]
    simp only [c, if_true, show (0 ≤ (p.length : Int)) = True from eq_true (by omega), Int.toNat_natCast, show (p.length ≤ 35184372088832) = True from eq_true (by omega)]
    exact impl_Regex_l0_ev p (by omega) (by omega) hk p.length 0 (by omega) _ _ ⟨by simp, by simp, fun j hj => by omega, fun j hj => by omega⟩ (fun j hj => by omega)
  · simp only [if_neg c]
    rw [Bof_false (fun h => c (inR_true.mpr ⟨by have := h.1; omega, by have := h.2.1; omega⟩))]
    exact Ev.now _
end Go.Proofs.Ytomfhenoblfckaa.PR
