/- ParticleOk of the program comes to the plain test, and the laws' own small functions on particles. -/
import Derived.Test.YtaliphegdclkfaaPLx0
import Derived.Test.YtaliphegdclkfaaPLx5
import Derived.Test.YtaliphegdclkfaaPLx7
import Derived.Test.YtaliphegdclkfaaPLx8
import Derived.Test.YtaliphegdclkfaaLPBase
import Derived.Test.YtaliphegdclkfaaLPIn
import Derived.Test.YtaliphegdclkfaaLPInts
import Derived.Test.YtaliphegdclkfaaLPNames
import Derived.Test.YtaliphegdclkfaaLPTree
import Derived.Test.YtaliphegdclkfaaLPParts
namespace Go.Proofs.Ytaliphegdclkfaa.PL
open Go.RowKit Go.Proofs.YtaliphegdclkfaaW.PrintWords Go.Proofs.YtaliphegdclkfaaW.PrintMore
set_option linter.unusedVariables false
set_option linter.unusedSimpArgs false
theorem rd_set (l : List Int) (i j : Nat) (v : Int) (h : i < l.length) : rd (l.set i v) (j : Int) = if j = i then v else rd l (j : Int) := by
  unfold rd
  simp only [Int.toNat_natCast, List.getD_eq_getElem?_getD, List.getElem?_set]
  by_cases c : i = j
  · subst c; simp [h]
  · rw [if_neg c, if_neg (fun e => c e.symm)]
theorem impl_fits_ev (x : S44) (hx : x.f1.size ≤ 140737488351232) : Ev (fun k => impl_PNode_fits.f k x.f0 x.f1 x.f2 x.f3) (Bof (fits x)) := by
  unfold impl_PNode_fits.f
  by_cases c1 : x.f0 = 1
  · simp only [c1, if_true]
    refine Ev.bind (impl_NameOk_ev _ hx) ?_
    cases hna : nameOk x.f1
    · rw [Bof_false (by rintro (h | h | h | h) <;> simp_all)]
      exact Ev.now _
    · simp only [if_true]
      by_cases c2 : x.f2.length = 0
      · rw [Bof_true (.inl ⟨c1, hna, c2⟩)]
        simp only [c2]
        exact Ev.now _
      · rw [Bof_false (by rintro (h | h | h | h) <;> omega)]
        have : (((x.f2.length : Int)) == 0) = false := by simp; intro e; exact c2 (by rw [e]; rfl)
        simp only [this]
        exact Ev.now _
  · simp only [c1, if_false]
    by_cases c4 : x.f0 = 4
    · simp only [c4, if_true]
      by_cases ce : x.f1.toList = ([] : List UInt8)
      · simp only [ce, if_true]
        by_cases c2 : x.f2.length = 0
        · rw [Bof_true (.inr (.inl ⟨c4, ce, c2⟩))]
          simp only [c2]
          exact Ev.now _
        · rw [Bof_false (by rintro (h | h | h | h) <;> omega)]
          have : (((x.f2.length : Int)) == 0) = false := by simp; intro e; exact c2 (by rw [e]; rfl)
          simp only [this]
          exact Ev.now _
      · simp only [if_neg ce]
        rw [Bof_false (by rintro (h | h | h | h) <;> first | omega | exact ce h.2.1 | exact ce h.2)]
        exact Ev.now _
    · simp only [c4, if_false]
      by_cases c3 : x.f0 = 2
      · simp only [c3, if_true]
        by_cases ce : x.f1.toList = ([] : List UInt8)
        · simp only [ce, if_true]
          rw [Bof_true (.inr (.inr (.inl ⟨c3, ce⟩)))]
          exact Ev.now _
        · simp only [if_neg ce]
          rw [Bof_false (by rintro (h | h | h | h) <;> first | omega | exact ce h.2.1 | exact ce h.2)]
          exact Ev.now _
      · simp only [c3, if_false]
        by_cases c5 : x.f0 = 3
        · simp only [c5, if_true]
          by_cases ce : x.f1.toList = ([] : List UInt8)
          · simp only [ce, if_true]
            by_cases c2 : (x.f2.length : Int) ≥ 2
            · rw [Bof_true (.inr (.inr (.inr ⟨c5, ce, by omega⟩))), decide_eq_true c2]
              exact Ev.now _
            · rw [Bof_false (by rintro (h | h | h | h) <;> omega), decide_eq_false c2]
              exact Ev.now _
          · simp only [if_neg ce]
            rw [Bof_false (by rintro (h | h | h | h) <;> first | omega | exact ce h.2.1 | exact ce h.2)]
            exact Ev.now _
        · simp only [if_neg c5]
          rw [Bof_false (by rintro (h | h | h | h) <;> omega)]
          exact Ev.now _
/-- What the two rows say when the nodes before i are done. -/
def good (p : List S44) (i : Nat) (a b : List Int) : Prop := a.length = p.length ∧ b.length = p.length ∧ (∀ j, j < i → tree (kidsR p) j = some (rd a (j : Int)).toNat ∧ 0 ≤ rd a (j : Int)) ∧ ∀ j, j < i → rd b (j : Int) = depth (kidsR p) j
theorem impl_l1_ev (p : List S44) (hp : p.length ≤ 1000) (i : Nat) (hi : i < p.length) (hk : (rd_T44 p (i : Int)).f2.length ≤ 140737488351232) (r : Bool) : ∀ m, m ≤ (rd_T44 p (i : Int)).f2.length → ∀ (c : Nat) (e : Int) (a b : List Int), c ≤ i → 0 ≤ e → e ≤ (i : Int) → good p i a b → (∀ j, i < j → j < p.length → rd b (j : Int) = 0) → rd a (i : Int) = (c : Int) → rd b (i : Int) = e →
    (∀ f a' b', ch (tree (kidsR p)) ((rd_T44 p (i : Int)).f2.take m).reverse c = some f → good p i a' b' → (∀ j, i < j → j < p.length → rd b' (j : Int) = 0) → rd a' (i : Int) = (f : Int) → rd b' (i : Int) = mxs (((rd_T44 p (i : Int)).f2.take m).reverse.map (fun x => depth (kidsR p) x.toNat + 1)) e → Ev (fun k => impl_ParticleOk.l0 k p a' b' p (p.length : Int) ((i + 1 : Nat) : Int)) r) →
    (ch (tree (kidsR p)) ((rd_T44 p (i : Int)).f2.take m).reverse c = none → r = false) →
    Ev (fun k => impl_ParticleOk.l1 k p a b (i : Int) ((m : Int) - 1) p (p.length : Int) (i : Int) (rd_T44 p (i : Int)).f0 (rd_T44 p (i : Int)).f1 (rd_T44 p (i : Int)).f2 (rd_T44 p (i : Int)).f3) r := by
  intro m
  induction m with
  | zero =>
    intro _ c e a b hc he he2 hg hz ha hb hgo _
    refine Ev.step (fun k => ?_) (hgo c a b rfl hg hz ha hb)
    simp only [impl_ParticleOk.l1]
    rw [if_neg (by omega), wrap_succ (n := p.length) (by omega) (cast_lt hi) (by omega)]
    rfl
  | succ m ih =>
    intro hm c e a b hc he he2 hg hz ha hb hgo hno
    rw [take_rev _ _ (by omega)] at hgo hno
    have e1 : ((m + 1 : Nat) : Int) - 1 = (m : Int) := by omega
    rw [e1]
    simp only [ch] at hgo hno
    by_cases c0 : rd (rd_T44 p (i : Int)).f2 (m : Int) < 0
    · rw [hno (by rw [if_neg (by omega)])]
      refine Ev.later fun k => ?_
      simp only [impl_ParticleOk.l1]
      rw [if_pos (by omega), if_pos (by omega), if_pos (cast_lt (by omega)), if_pos c0]
    by_cases c1 : rd (rd_T44 p (i : Int)).f2 (m : Int) = (c : Int) - 1
    · have hc0 : 0 < c := by omega
      have hx : rd (rd_T44 p (i : Int)).f2 (m : Int) = ((c - 1 : Nat) : Int) := by omega
      have ht := hg.2.2.1 (c - 1) (by omega)
      have hd := hg.2.2.2 (c - 1) (by omega)
      have hdr := depth_range (kidsR p) (c - 1)
      have hle := tree_le _ _ _ ht.1
      rw [if_pos ⟨hc0, c1⟩, ht.1] at hgo hno
      simp only [Option.bind_some] at hgo hno
      have hmx : mx e (depth (kidsR p) (c - 1) + 1) ≤ (i : Int) := by unfold mx; split <;> omega
      have hmx0 : 0 ≤ mx e (depth (kidsR p) (c - 1) + 1) := by unfold mx; split <;> omega
      have hla := hg.1
      have hlb := hg.2.1
      refine Ev.step (fun k => ?_) (ih (by omega) (rd a ((c - 1 : Nat) : Int)).toNat (mx e (depth (kidsR p) (c - 1) + 1)) (a.set i (rd a ((c - 1 : Nat) : Int))) (b.set i (mx e (depth (kidsR p) (c - 1) + 1))) (by omega) hmx0 hmx
        ⟨by rw [List.length_set]; exact hg.1, by rw [List.length_set]; exact hg.2.1, fun j hj => by rw [rd_set _ _ _ _ (by omega), if_neg (by omega)]; exact hg.2.2.1 j hj, fun j hj => by rw [rd_set _ _ _ _ (by omega), if_neg (by omega)]; exact hg.2.2.2 j hj⟩
        (fun j hj hj2 => by rw [rd_set _ _ _ _ (by omega), if_neg (by omega)]; exact hz j hj hj2)
        (by rw [rd_set _ _ _ _ (by omega), if_pos rfl]; omega) (by rw [rd_set _ _ _ _ (by omega), if_pos rfl])
        (fun f a' b' hf hg' hz' ha' hb' => hgo f a' b' hf hg' hz' ha' (by rw [hb']; simp only [List.map_cons, mxs, hx, Int.toNat_natCast])) hno)
      simp only [impl_ParticleOk.l1]
      rw [if_pos (by omega), if_pos (by omega), if_pos (cast_lt (by omega)), if_neg c0, if_pos (by omega), if_pos (by omega), ha, w64 (x := (c : Int) - 1) (by omega) (by omega), if_pos c1, if_pos (by omega), if_pos (by omega), if_pos (by omega), if_pos (by omega), hb, hx, hd, w64 (x := depth (kidsR p) (c - 1) + 1) (by omega) (by omega), w64 (x := (m : Int) - 1) (by omega) (by omega), Int.toNat_natCast]
    · rw [hno (by rw [if_neg (fun h => c1 h.2)])]
      have hla := hg.1
      refine Ev.later fun k => ?_
      simp only [impl_ParticleOk.l1]
      rw [if_pos (by omega), if_pos (by omega), if_pos (cast_lt (by omega)), if_neg c0, if_pos (by omega), if_pos (by omega), ha, w64 (x := (c : Int) - 1) (by omega) (by omega), if_neg c1]
theorem impl_l0_ev (p : List S44) (h1 : 1 ≤ p.length) (hp : p.length ≤ 1000) (hk : ∀ j : Nat, (rd_T44 p (j : Int)).f2.length ≤ 140737488351232) (hn : ∀ j : Nat, (rd_T44 p (j : Int)).f1.size ≤ 140737488351232) : ∀ d i, i + d = p.length → ∀ a b, good p i a b → (∀ j, i ≤ j → j < p.length → rd b (j : Int) = 0) → (∀ j, j < i → tree (kidsR p) j ≠ none) → Ev (fun k => impl_ParticleOk.l0 k p a b p (p.length : Int) (i : Int)) (Bof ((∀ j, i ≤ j → j < p.length → nodeI p j) ∧ endOk p)) := by
  intro d
  induction d with
  | zero =>
    intro i hi a b hg _ _
    have ht := hg.2.2.1 (p.length - 1) (by omega)
    have hd := hg.2.2.2 (p.length - 1) (by omega)
    have hla := hg.1
    have hlb := hg.2.1
    rw [show Bof ((∀ j, i ≤ j → j < p.length → nodeI p j) ∧ endOk p) = Bof (endOk p) from Bof_congr ⟨fun h => h.2, fun h => ⟨fun j _ _ => by omega, h⟩⟩]
    refine Ev.later fun k => ?_
    simp only [impl_ParticleOk.l0]
    rw [if_neg (cast_nlt (by omega)), w64 (x := (p.length : Int) - 1) (by omega) (by omega), show (p.length : Int) - 1 = ((p.length - 1 : Nat) : Int) by omega, if_pos (by omega), if_pos (by omega)]
    by_cases c : rd a ((p.length - 1 : Nat) : Int) = 0
    · have ht0 : tree (kidsR p) (p.length - 1) = some 0 := by rw [ht.1, c]; rfl
      rw [if_pos c, if_pos (by omega)]
      unfold impl_PNode_isPosition.f
      by_cases k1 : (rd_T44 p ((p.length - 1 : Nat) : Int)).f0 = 1
      · rw [if_pos k1, Bof_false (fun h => h.2.1 k1)]
        rfl
      rw [if_neg k1]
      simp only [Option.bind_some]
      by_cases k4 : (rd_T44 p ((p.length - 1 : Nat) : Int)).f0 = 4
      · rw [Bof_false (fun h => h.2.2.1 k4)]
        simp [k4]
      · have : ((rd_T44 p ((p.length - 1 : Nat) : Int)).f0 == 4) = false := by simp [k4]
        rw [this, if_neg (by simp), if_pos (by omega), hd]
        by_cases kd : depth (kidsR p) (p.length - 1) ≤ 9
        · rw [Bof_true ⟨ht0, k1, k4, kd⟩, decide_eq_true kd]
        · rw [Bof_false (fun h => kd h.2.2.2), decide_eq_false kd]
    · rw [if_neg c, Bof_false (fun h => by
        have := h.1
        rw [ht.1] at this
        have := Option.some.inj this
        omega)]
  | succ d ih =>
    intro i hi a b hg hz hT
    have hla := hg.1
    have hlb := hg.2.1
    refine Ev.step (f := fun k => (impl_PNode_fits.f k (rd_T44 p (i : Int)).f0 (rd_T44 p (i : Int)).f1 (rd_T44 p (i : Int)).f2 (rd_T44 p (i : Int)).f3).bind fun t166 => (if t166 = true then ((impl_in.f (rd_T44 p (i : Int)).f3 0 3).bind fun t167 => (impl_ParticleOk.j1 k p a b (i : Int) p (p.length : Int) (i : Int) (!t167) (rd_T44 p (i : Int)).f0 (rd_T44 p (i : Int)).f1 (rd_T44 p (i : Int)).f2 (rd_T44 p (i : Int)).f3)) else (impl_ParticleOk.j1 k p a b (i : Int) p (p.length : Int) (i : Int) true (rd_T44 p (i : Int)).f0 (rd_T44 p (i : Int)).f1 (rd_T44 p (i : Int)).f2 (rd_T44 p (i : Int)).f3))) (fun k => ?_) ?_
    · simp only [impl_ParticleOk.l0]
      rw [if_pos (cast_lt (by omega)), if_pos (by omega), if_pos (cast_lt (by omega))]
    refine Ev.bind (impl_fits_ev _ (hn i)) ?_
    by_cases hf : fits (rd_T44 p (i : Int))
    · rw [Bof_true hf]
      simp only [if_true]
      refine Ev.bind (Ev.congr (fun k => impl_in_eq _ _ _) (Ev.now _)) ?_
      cases co : inR (rd_T44 p (i : Int)).f3 0 3
      · rw [Bof_false (fun h => by have := (h.1 i (Nat.le_refl _) (by omega)).1; rw [co] at this; cases this)]
        exact Ev.later fun k => rfl
      · refine Ev.step (f := fun k => impl_ParticleOk.l1 k p (a.set i (i : Int)) b (i : Int) (((rd_T44 p (i : Int)).f2.length : Int) - 1) p (p.length : Int) (i : Int) (rd_T44 p (i : Int)).f0 (rd_T44 p (i : Int)).f1 (rd_T44 p (i : Int)).f2 (rd_T44 p (i : Int)).f3) (fun k => ?_) ?_
        · have := hk i
          simp only [impl_ParticleOk.j1, Bool.not_true, Bool.false_eq_true, if_false]
          rw [if_pos (by omega), if_pos (by omega), w64 (x := ((rd_T44 p (i : Int)).f2.length : Int) - 1) (by omega) (by omega), Int.toNat_natCast]
        refine impl_l1_ev p hp i (by omega) (hk i) _ (rd_T44 p (i : Int)).f2.length (Nat.le_refl _) i 0 _ b (Nat.le_refl _) (by omega) (by omega)
          ⟨by rw [List.length_set]; exact hg.1, hg.2.1, fun j hj => by rw [rd_set _ _ _ _ (by omega), if_neg (by omega)]; exact hg.2.2.1 j hj, hg.2.2.2⟩ (fun j hj hj2 => hz j (by omega) hj2)
          (by rw [rd_set _ _ _ _ (by omega), if_pos rfl]) (hz i (Nat.le_refl _) (by omega)) (fun f a' b' hch hg' hz' ha' hb' => ?_) (fun hch => ?_)
        · rw [List.take_length] at hch hb'
          have ht : tree (kidsR p) i = some f := by rw [tree_eq]; exact hch
          have hdep : rd b' (i : Int) = depth (kidsR p) i := by rw [hb', depth_eq _ _ (tree_range _ _ _ ht)]; rfl
          rw [show Bof ((∀ j, i ≤ j → j < p.length → nodeI p j) ∧ endOk p) = Bof ((∀ j, i + 1 ≤ j → j < p.length → nodeI p j) ∧ endOk p) from Bof_congr ⟨fun h => ⟨fun j h0 hj => h.1 j (by omega) hj, h.2⟩, fun h => ⟨fun j h0 hj => by
            by_cases ej : j = i
            · subst ej; exact ⟨co, hf, by rw [ht]; exact fun h => by cases h⟩
            · exact h.1 j (by omega) hj, h.2⟩⟩]
          refine ih (i + 1) (by omega) a' b' ⟨hg'.1, hg'.2.1, fun j hj => ?_, fun j hj => ?_⟩ (fun j hj hj2 => hz' j (by omega) hj2) (fun j hj => ?_)
          · by_cases ej : j = i
            · subst ej; rw [ht, ha']; exact ⟨by simp, by omega⟩
            · exact hg'.2.2.1 j (by omega)
          · by_cases ej : j = i
            · subst ej; exact hdep
            · exact hg'.2.2.2 j (by omega)
          · by_cases ej : j = i
            · subst ej; rw [ht]; exact fun h => by cases h
            · exact hT j (by omega)
        · rw [List.take_length] at hch
          exact Bof_false (fun h => (h.1 i (Nat.le_refl _) (by omega)).2.2 (by rw [tree_eq]; exact hch))
    · rw [Bof_false hf, Bof_false (fun h => hf (h.1 i (Nat.le_refl _) (by omega)).2.1)]
      simp only [Bool.false_eq_true, if_false]
      exact Ev.later fun k => rfl
theorem impl_ParticleOk_ev (p : List S44) (hk : ∀ j : Nat, (rd_T44 p (j : Int)).f2.length ≤ 140737488351232) (hn : ∀ j : Nat, (rd_T44 p (j : Int)).f1.size ≤ 140737488351232) : Ev (fun k => impl_ParticleOk.f k p) (Bof (partOk p)) := by
  unfold impl_ParticleOk.f
  simp only [impl_in_eq, Option.bind_some]
  by_cases c : inR (p.length : Int) 1 40 = true
  · have c' := inR_true.mp c
    rw [show Bof (partOk p) = Bof ((∀ j, 0 ≤ j → j < p.length → nodeI p j) ∧ endOk p) from Bof_congr ⟨fun h => (nodes_iff p (by omega)).mp h.2.2, fun h => ⟨by omega, by omega, (nodes_iff p (by omega)).mpr h⟩⟩]
    simp only [c, if_true, show (0 ≤ (p.length : Int)) = True from eq_true (by omega), Int.toNat_natCast, show (p.length ≤ 35184372088832) = True from eq_true (by omega)]
    have hz : ∀ j : Nat, rd (List.replicate p.length (0 : Int)) (j : Int) = 0 := by
      intro j
      unfold rd
      simp only [Int.toNat_natCast, List.getD_eq_getElem?_getD, List.getElem?_replicate]
      split <;> rfl
    exact impl_l0_ev p (by omega) (by omega) hk hn p.length 0 (by omega) _ _ ⟨by simp, by simp, fun j hj => by omega, fun j hj => by omega⟩ (fun j _ _ => hz j) (fun j hj => by omega)
  · simp only [if_neg c]
    rw [Bof_false (fun h => c (inR_true.mpr ⟨by have := h.1; omega, by have := h.2.1; omega⟩))]
    exact Ev.now _
end Go.Proofs.Ytaliphegdclkfaa.PL
