/- ParticleOk of the reference and of the program come to the same plain test. -/
import Derived.Test.YtaliphegdclkfaaPLx0
import Derived.Test.YtaliphegdclkfaaPLx2
import Derived.Test.YtaliphegdclkfaaPLx3
import Derived.Test.YtaliphegdclkfaaPLx4
import Derived.Test.YtaliphegdclkfaaLPBase
import Derived.Test.YtaliphegdclkfaaLPIn
import Derived.Test.YtaliphegdclkfaaLPNames
import Derived.Test.YtaliphegdclkfaaLPTree
namespace Go.Proofs.Ytaliphegdclkfaa.PL
open Go.RowKit Go.Proofs.YtaliphegdclkfaaW.PrintWords Go.Proofs.YtaliphegdclkfaaW.PrintMore
set_option linter.unusedVariables false
set_option linter.unusedSimpArgs false
def kidsR (p : List S44) (i : Nat) : List Int := (rd_T44 p (i : Int)).f2.reverse
def tv : Option Nat → Int
  | none => -1
  | some f => (f : Int)
theorem tv_none : tv none = -1 := rfl
theorem tv_some (f : Nat) : tv (some f) = (f : Int) := rfl
theorem take_rev (l : List Int) (m : Nat) (h : m < l.length) : (l.take (m + 1)).reverse = rd l (m : Int) :: (l.take m).reverse := by
  rw [List.take_succ_eq_append_getElem h, List.reverse_append]
  simp only [List.reverse_cons, List.reverse_nil, List.nil_append, List.singleton_append]
  congr 1
  unfold rd
  simp [List.getD_eq_getElem?_getD, h]
theorem l8Tree_f_ev (p : List S44) (hp : p.length ≤ 1000000) (hk : ∀ j : Nat, (rd_T44 p (j : Int)).f2.length ≤ 140737488351232) : ∀ n, n < p.length → Ev (fun k => spec_l8Tree.f k p (n : Int)) (tv (tree (kidsR p) n)) := by
  intro n
  induction n using Nat.strongRecOn with
  | ind n ih =>
    intro hn
    have hkn := hk n
    have loop : ∀ m, m ≤ (rd_T44 p (n : Int)).f2.length → ∀ c, c ≤ n → Ev (fun k => spec_l8Tree.l0 k p (n : Int) ((c : Int) - 1) ((m : Int) - 1)) (tv (ch (tree (kidsR p)) ((rd_T44 p (n : Int)).f2.take m).reverse c)) := by
      intro m
      induction m with
      | zero =>
        intro _ c hc
        refine Ev.later fun k => ?_
        simp only [spec_l8Tree.l0]
        rw [if_neg (by omega), w64 (by omega) (by omega)]
        simp only [List.take_zero, List.reverse_nil, ch, tv]
        congr 1
        omega
      | succ m ihm =>
        intro hm c hc
        rw [take_rev _ _ (by omega)]
        by_cases h0 : c = 0
        · subst h0
          refine Ev.step (f := fun k => spec_l8Tree.j1 k p (n : Int) ((0 : Nat) - 1) ((m + 1 : Nat) - 1) true) (fun k => ?_) ?_
          · simp only [spec_l8Tree.l0]
            rw [if_pos (by omega), if_pos (by omega)]
          · refine Ev.later fun k => ?_
            simp only [spec_l8Tree.j1, if_true]
            simp [ch, tv]
        · refine Ev.step (f := fun k => spec_l8Tree.j1 k p (n : Int) ((c : Int) - 1) ((m + 1 : Nat) - 1) ((rd (rd_T44 p (n : Int)).f2 (((m + 1 : Nat) : Int) - 1)) != ((c : Int) - 1))) (fun k => ?_) ?_
          · simp only [spec_l8Tree.l0]
            rw [if_pos (by omega), if_neg (by omega), if_pos (by omega), if_pos (cast_lt hn), if_pos (by omega), if_pos (by omega)]
          rw [show ((m + 1 : Nat) : Int) - 1 = (m : Int) by omega]
          by_cases e : rd (rd_T44 p (n : Int)).f2 (m : Int) = (c : Int) - 1
          · rw [e]
            simp only [bne_self_eq_false, ch]
            rw [if_pos ⟨by omega, trivial⟩]
            refine Ev.step (f := fun k => (spec_l8Tree.f k p ((c - 1 : Nat) : Int)).bind fun t112 => (if t112 < 0 then (some (-1)) else (spec_l8Tree.l0 k p (n : Int) (wrap64 (t112 - 1)) (wrap64 ((m : Int) - 1))))) (fun k => ?_) ?_
            · simp only [spec_l8Tree.j1, Bool.false_eq_true, if_false]
              rw [show ((c - 1 : Nat) : Int) = (c : Int) - 1 by omega]
            refine Ev.bind (ih (c - 1) (by omega) (by omega)) ?_
            cases hg : tree (kidsR p) (c - 1) with
            | none =>
              simp only [tv_none, Option.bind_none, show ((-1 : Int) < 0) = True from eq_true (by decide), if_true]
              exact Ev.now _
            | some g =>
              have := tree_le _ _ _ hg
              simp only [tv_some, Option.bind_some, show ((g : Int) < 0) = False from eq_false (by omega), if_false]
              rw [w64 (x := (g : Int) - 1) (by omega) (by omega), w64 (x := (m : Int) - 1) (by omega) (by omega)]
              exact ihm (by omega) g (by omega)
          · refine Ev.later fun k => ?_
            have hb : ((rd (rd_T44 p (n : Int)).f2 (m : Int)) != ((c : Int) - 1)) = true := by simp [e]
            simp only [spec_l8Tree.j1, hb, if_true, ch]
            rw [if_neg (fun h => e h.2)]
            rfl
    have := loop (rd_T44 p (n : Int)).f2.length (Nat.le_refl _) n (Nat.le_refl _)
    rw [List.take_length] at this
    rw [tree_eq]
    refine Ev.step (f := fun k => spec_l8Tree.l0 k p (n : Int) ((n : Int) - 1) (((rd_T44 p (n : Int)).f2.length : Int) - 1)) (fun k => ?_) this
    simp only [spec_l8Tree.f]
    rw [if_pos (by omega), if_pos (cast_lt hn), w64 (by omega) (by omega), w64 (by omega) (by omega)]
theorem l8Deep_f_ev (p : List S44) (hp : p.length ≤ 1000000) (hk : ∀ j : Nat, (rd_T44 p (j : Int)).f2.length ≤ 140737488351232) (hK : ∀ j, j < p.length → ∀ x ∈ kidsR p j, 0 ≤ x ∧ x < (j : Int)) : ∀ n, n < p.length → Ev (fun k => spec_l8Deep.f k p (n : Int)) (depth (kidsR p) n + 1) := by
  intro n
  induction n using Nat.strongRecOn with
  | ind n ih =>
    intro hn
    have hkn := hk n
    have hKn : ∀ x ∈ (rd_T44 p (n : Int)).f2, 0 ≤ x ∧ x < (n : Int) := fun x hx => hK n hn x (by unfold kidsR; exact List.mem_reverse.mpr hx)
    have loop : ∀ d m, m + d = (rd_T44 p (n : Int)).f2.length → ∀ a : Int, 0 ≤ a → a ≤ (n : Int) → Ev (fun k => spec_l8Deep.l0 k p (n : Int) a (m : Int)) (mxs (((rd_T44 p (n : Int)).f2.drop m).map (fun x => depth (kidsR p) x.toNat + 1)) a + 1) := by
      intro d
      induction d with
      | zero =>
        intro m hm a ha ha2
        refine Ev.later fun k => ?_
        simp only [spec_l8Deep.l0]
        rw [if_pos (by omega), if_pos (cast_lt hn), if_neg (cast_nlt (by omega)), w64 (by omega) (by omega), List.drop_eq_nil_of_le (by omega)]
        rfl
      | succ d ihd =>
        intro m hm a ha ha2
        have hx := hKn _ (rd_mem (rd_T44 p (n : Int)).f2 m (by omega))
        have e : ((rd (rd_T44 p (n : Int)).f2 (m : Int)).toNat : Int) = rd (rd_T44 p (n : Int)).f2 (m : Int) := by omega
        have hr := depth_range (kidsR p) (rd (rd_T44 p (n : Int)).f2 (m : Int)).toNat
        refine Ev.step (f := fun k => (spec_l8Deep.f k p (((rd (rd_T44 p (n : Int)).f2 (m : Int)).toNat : Nat) : Int)).bind fun t116 => (spec_l8Deep.l0 k p (n : Int) (mx a t116) (wrap64 ((m : Int) + 1)))) (fun k => ?_) ?_
        · simp only [spec_l8Deep.l0]
          rw [if_pos (by omega), if_pos (cast_lt hn), if_pos (cast_lt (by omega)), if_pos (by omega), e]
        refine Ev.bind (ih _ (by omega) (by omega)) ?_
        rw [wrap_succ (n := (rd_T44 p (n : Int)).f2.length) (by omega) (cast_lt (by omega)) (by omega), list_drop _ _ (by omega)]
        simp only [List.map_cons, mxs]
        have hm2 : mx a (depth (kidsR p) (rd (rd_T44 p (n : Int)).f2 (m : Int)).toNat + 1) ≤ (n : Int) := by unfold mx; split <;> omega
        have hm3 : 0 ≤ mx a (depth (kidsR p) (rd (rd_T44 p (n : Int)).f2 (m : Int)).toNat + 1) := by unfold mx; split <;> omega
        exact ihd (m + 1) (by omega) _ hm3 hm2
    have := loop (rd_T44 p (n : Int)).f2.length 0 (by omega) 0 (by omega) (by omega)
    rw [List.drop_zero] at this
    rw [depth_eq _ _ (hK n hn)]
    unfold kidsR
    rw [List.map_reverse, mxs_reverse]
    exact Ev.step (f := fun k => spec_l8Deep.l0 k p (n : Int) 0 ((0 : Nat) : Int)) (fun k => rfl) this
/-- What one node must be by itself. -/
def fits (x : S44) : Prop := (x.f0 = 1 ∧ nameOk x.f1 = true ∧ x.f2.length = 0) ∨ (x.f0 = 4 ∧ x.f1.toList = [] ∧ x.f2.length = 0) ∨ (x.f0 = 2 ∧ x.f1.toList = []) ∨ (x.f0 = 3 ∧ x.f1.toList = [] ∧ 2 ≤ x.f2.length)
def nodeS (p : List S44) (i : Nat) : Prop := inR (rd_T44 p (i : Int)).f3 0 3 = true ∧ fits (rd_T44 p (i : Int)) ∧ ∀ x ∈ kidsR p i, 0 ≤ x ∧ x < (i : Int)
def nodeI (p : List S44) (i : Nat) : Prop := inR (rd_T44 p (i : Int)).f3 0 3 = true ∧ fits (rd_T44 p (i : Int)) ∧ tree (kidsR p) i ≠ none
def endOk (p : List S44) : Prop := tree (kidsR p) (p.length - 1) = some 0 ∧ (rd_T44 p ((p.length - 1 : Nat) : Int)).f0 ≠ 1 ∧ (rd_T44 p ((p.length - 1 : Nat) : Int)).f0 ≠ 4 ∧ depth (kidsR p) (p.length - 1) ≤ 9
def partOk (p : List S44) : Prop := 1 ≤ p.length ∧ p.length ≤ 40 ∧ (∀ j, 0 ≤ j → j < p.length → nodeS p j) ∧ endOk p
theorem nodes_iff (p : List S44) (h1 : 1 ≤ p.length) : ((∀ j, 0 ≤ j → j < p.length → nodeS p j) ∧ endOk p) ↔ ((∀ j, 0 ≤ j → j < p.length → nodeI p j) ∧ endOk p) := by
  constructor
  · rintro ⟨h, e⟩
    refine ⟨fun j h0 hj => ⟨(h j h0 hj).1, (h j h0 hj).2.1, ?_⟩, e⟩
    obtain ⟨g, hg⟩ := tree_covers _ _ _ e.1 j (by omega) (by omega)
    rw [hg]
    exact fun h => by cases h
  · rintro ⟨h, e⟩
    refine ⟨fun j h0 hj => ⟨(h j h0 hj).1, (h j h0 hj).2.1, ?_⟩, e⟩
    cases ht : tree (kidsR p) j with
    | none => exact absurd ht (h j h0 hj).2.2
    | some f => exact tree_range _ _ _ ht
theorem spec_l1_ev (p : List S44) (i : Nat) (hi : i < 1000000) (x : S44) (hx : x.f2.length ≤ 140737488351232) (r : Bool) : ∀ d m, m + d = x.f2.length → ((∀ y ∈ x.f2.drop m, 0 ≤ y ∧ y < (i : Int)) → Ev (fun k => spec_ParticleOk.l0 k p ((i + 1 : Nat) : Int)) r) → Ev (fun k => spec_ParticleOk.l1 k p (i : Int) (m : Int) x.f0 x.f1 x.f2 x.f3) (Bof (∀ y ∈ x.f2.drop m, 0 ≤ y ∧ y < (i : Int)) && r) := by
  intro d
  induction d with
  | zero =>
    intro m hm h
    have hv : ∀ y ∈ x.f2.drop m, 0 ≤ y ∧ y < (i : Int) := by rw [List.drop_eq_nil_of_le (by omega)]; intro y hy; cases hy
    rw [Bof_true hv, Bool.true_and]
    refine Ev.step (fun k => ?_) (h hv)
    simp only [spec_ParticleOk.l1]
    rw [if_neg (cast_nlt (by omega)), w64 (by omega) (by omega)]
    rfl
  | succ d ih =>
    intro m hm h
    rw [list_drop _ _ (by omega)] at h ⊢
    by_cases c : inR (rd x.f2 (m : Int)) 0 ((i : Int) - 1) = true
    · have c' := inR_true.mp c
      rw [show Bof (∀ y ∈ rd x.f2 (m : Int) :: x.f2.drop (m + 1), 0 ≤ y ∧ y < (i : Int)) = Bof (∀ y ∈ x.f2.drop (m + 1), 0 ≤ y ∧ y < (i : Int)) from Bof_congr ⟨fun h y hy => h y (List.mem_cons_of_mem _ hy), fun h y hy => by
        rcases List.mem_cons.mp hy with e | e
        · omega
        · exact h y e⟩]
      refine Ev.step (fun k => ?_) (ih (m + 1) (by omega) (fun hh => h (fun y hy => by
        rcases List.mem_cons.mp hy with e | e
        · omega
        · exact hh y e)))
      simp only [spec_ParticleOk.l1]
      rw [if_pos (cast_lt (by omega)), if_pos (by omega), spec_l1In_eq, w64 (x := (i : Int) - 1) (by omega) (by omega), c, wrap_succ (n := x.f2.length) (by omega) (cast_lt (by omega)) (by omega)]
      rfl
    · rw [Bof_false (fun hh => c (inR_true.mpr (by have := hh _ (List.mem_cons_self ..); omega))), Bool.false_and]
      refine Ev.later fun k => ?_
      simp only [spec_ParticleOk.l1]
      rw [if_pos (cast_lt (by omega)), if_pos (by omega), spec_l1In_eq, w64 (x := (i : Int) - 1) (by omega) (by omega), Bool.eq_false_iff.mpr c]
      rfl
theorem spec_fits_ev (p : List S44) (i : Nat) (x : S44) (hx : x.f1.size ≤ 140737488351232) (r : Bool) (h : fits x → Ev (fun k => spec_ParticleOk.j2 k p (i : Int) x.f0 x.f1 x.f2 x.f3) r) (hn : ¬ fits x → r = false) :
    Ev (fun k => (if (x.f0) = 1 then ((spec_NameOk.f k (x.f1)).bind fun t124 => (if t124 = true then (if ((x.f2).length : Int) > 0 then (some false) else (spec_ParticleOk.j2 k p (i : Int) (x.f0) (x.f1) (x.f2) (x.f3))) else (some false))) else (if (x.f0) = 4 then (if (x.f1).toList = ([] : List UInt8) then (if ((x.f2).length : Int) > 0 then (some false) else (spec_ParticleOk.j2 k p (i : Int) (x.f0) (x.f1) (x.f2) (x.f3))) else (some false)) else (if (x.f0) = 2 then (if (x.f1).toList = ([] : List UInt8) then (spec_ParticleOk.j2 k p (i : Int) (x.f0) (x.f1) (x.f2) (x.f3)) else (some false)) else (if (x.f0) = 3 then (if (x.f1).toList = ([] : List UInt8) then (if ((x.f2).length : Int) < 2 then (some false) else (spec_ParticleOk.j2 k p (i : Int) (x.f0) (x.f1) (x.f2) (x.f3))) else (some false)) else (some false)))))) r := by
  by_cases c1 : x.f0 = 1
  · simp only [c1, if_true]
    refine Ev.bind (spec_NameOk_ev _ hx) ?_
    cases hna : nameOk x.f1
    · rw [hn (by rintro (h | h | h | h) <;> simp_all)]
      exact Ev.now _
    · simp only [if_true]
      by_cases c2 : (x.f2.length : Int) > 0
      · simp only [if_pos c2]; rw [hn (by rintro (h | h | h | h) <;> omega)]
        exact Ev.now _
      · simp only [c2, if_false]
        have := h (.inl ⟨c1, hna, by omega⟩)
        rw [c1] at this
        exact this
  · simp only [c1, if_false]
    by_cases c4 : x.f0 = 4
    · simp only [c4, if_true]
      by_cases ce : x.f1.toList = ([] : List UInt8)
      · simp only [ce, if_true]
        by_cases c2 : (x.f2.length : Int) > 0
        · simp only [if_pos c2]; rw [hn (by rintro (h | h | h | h) <;> omega)]
          exact Ev.now _
        · simp only [c2, if_false]
          have := h (.inr (.inl ⟨c4, ce, by omega⟩))
          rw [c4] at this
          exact this
      · simp only [if_neg ce]; rw [hn (by rintro (h | h | h | h) <;> first | omega | exact ce h.2.1 | exact ce h.2)]
        exact Ev.now _
    · simp only [c4, if_false]
      by_cases c3 : x.f0 = 2
      · simp only [c3, if_true]
        by_cases ce : x.f1.toList = ([] : List UInt8)
        · simp only [ce, if_true]
          have := h (.inr (.inr (.inl ⟨c3, ce⟩)))
          rw [c3] at this
          exact this
        · simp only [if_neg ce]; rw [hn (by rintro (h | h | h | h) <;> first | omega | exact ce h.2.1 | exact ce h.2)]
          exact Ev.now _
      · simp only [c3, if_false]
        by_cases c5 : x.f0 = 3
        · simp only [c5, if_true]
          by_cases ce : x.f1.toList = ([] : List UInt8)
          · simp only [ce, if_true]
            by_cases c2 : (x.f2.length : Int) < 2
            · simp only [if_pos c2]; rw [hn (by rintro (h | h | h | h) <;> omega)]
              exact Ev.now _
            · simp only [c2, if_false]
              have := h (.inr (.inr (.inr ⟨c5, ce, by omega⟩)))
              rw [c5] at this
              exact this
          · simp only [if_neg ce]; rw [hn (by rintro (h | h | h | h) <;> first | omega | exact ce h.2.1 | exact ce h.2)]
            exact Ev.now _
        · simp only [if_neg c5]; rw [hn (by rintro (h | h | h | h) <;> omega)]
          exact Ev.now _
theorem spec_l0_ev (p : List S44) (h1 : 1 ≤ p.length) (hp : p.length ≤ 1000) (hk : ∀ j : Nat, (rd_T44 p (j : Int)).f2.length ≤ 140737488351232) (hn : ∀ j : Nat, (rd_T44 p (j : Int)).f1.size ≤ 140737488351232) : ∀ d i, i + d = p.length → (∀ j, j < i → nodeS p j) → Ev (fun k => spec_ParticleOk.l0 k p (i : Int)) (Bof ((∀ j, i ≤ j → j < p.length → nodeS p j) ∧ endOk p)) := by
  intro d
  induction d with
  | zero =>
    intro i hi hS
    rw [show Bof ((∀ j, i ≤ j → j < p.length → nodeS p j) ∧ endOk p) = Bof (endOk p) from Bof_congr ⟨fun h => h.2, fun h => ⟨fun j _ _ => by omega, h⟩⟩]
    refine Ev.step (f := fun k => (spec_l8Tree.f k p ((p.length - 1 : Nat) : Int)).bind fun t117 => (if t117 = 0 then (if 0 ≤ ((p.length - 1 : Nat) : Int) then (if ((p.length - 1 : Nat) : Int) < (p.length : Int) then (if ((rd_T44 p ((p.length - 1 : Nat) : Int)).f0) = 1 then (some false) else (if ((rd_T44 p ((p.length - 1 : Nat) : Int)).f0) = 4 then (some false) else ((spec_l8Deep.f k p ((p.length - 1 : Nat) : Int)).bind fun t120 => (some (decide (t120 ≤ 10)))))) else (none)) else (none)) else (some false))) (fun k => ?_) ?_
    · simp only [spec_ParticleOk.l0]
      rw [if_neg (cast_nlt (by omega)), w64 (x := (p.length : Int) - 1) (by omega) (by omega), show (p.length : Int) - 1 = ((p.length - 1 : Nat) : Int) by omega]
    refine Ev.bind (l8Tree_f_ev p (by omega) hk (p.length - 1) (by omega)) ?_
    by_cases c : tree (kidsR p) (p.length - 1) = some 0
    · rw [c]
      simp only [tv_some]
      simp only [if_true, show (0 ≤ ((p.length - 1 : Nat) : Int)) = True from eq_true (by omega), show (((p.length - 1 : Nat) : Int) < (p.length : Int)) = True from eq_true (by omega), show (((0 : Nat) : Int) = 0) = True from eq_true rfl]
      by_cases k1 : (rd_T44 p ((p.length - 1 : Nat) : Int)).f0 = 1
      · simp only [if_pos k1]; rw [Bof_false (fun h => h.2.1 k1)]
        exact Ev.now _
      simp only [if_neg k1]
      by_cases k4 : (rd_T44 p ((p.length - 1 : Nat) : Int)).f0 = 4
      · simp only [if_pos k4]; rw [Bof_false (fun h => h.2.2.1 k4)]
        exact Ev.now _
      simp only [if_neg k4]
      refine Ev.bind (l8Deep_f_ev p (by omega) hk (fun j hj => (hS j (by omega)).2.2) (p.length - 1) (by omega)) ?_
      by_cases kd : depth (kidsR p) (p.length - 1) ≤ 9
      · rw [Bof_true ⟨c, k1, k4, kd⟩, decide_eq_true (by omega)]
        exact Ev.now _
      · rw [Bof_false (fun h => kd h.2.2.2), decide_eq_false (by omega)]
        exact Ev.now _
    · have hne : ¬ tv (tree (kidsR p) (p.length - 1)) = 0 := by
        cases ht : tree (kidsR p) (p.length - 1) with
        | none => simp [tv]
        | some g =>
          simp only [tv]
          intro e
          exact c (by rw [ht]; congr 1; omega)
      simp only [if_neg hne]
      rw [Bof_false (fun h => c h.1)]
      exact Ev.now _
  | succ d ih =>
    intro i hi hS
    by_cases co : inR (rd_T44 p (i : Int)).f3 0 3 = true
    · have key : Ev (fun k => spec_ParticleOk.l0 k p (i : Int)) (Bof ((∀ j, i ≤ j → j < p.length → nodeS p j) ∧ endOk p)) := by
        refine Ev.step (fun k => ?_) (spec_fits_ev p i (rd_T44 p (i : Int)) (hn i) _ (fun hf => ?_) (fun hf => Bof_false (fun h => hf (h.1 i (Nat.le_refl _) (by omega)).2.1)))
        · simp only [spec_ParticleOk.l0]
          rw [if_pos (cast_lt (by omega)), if_pos (by omega), spec_l1In_eq, co]
          rfl
        · have e : Bof ((∀ j, i ≤ j → j < p.length → nodeS p j) ∧ endOk p) = (Bof (∀ y ∈ (rd_T44 p (i : Int)).f2.drop 0, 0 ≤ y ∧ y < (i : Int)) && Bof ((∀ j, i + 1 ≤ j → j < p.length → nodeS p j) ∧ endOk p)) := by
            by_cases cr : ∀ y ∈ (rd_T44 p (i : Int)).f2.drop 0, 0 ≤ y ∧ y < (i : Int)
            · rw [Bof_true cr, Bool.true_and]
              refine Bof_congr ⟨fun h => ⟨fun j h0 hj => h.1 j (by omega) hj, h.2⟩, fun h => ⟨fun j h0 hj => ?_, h.2⟩⟩
              by_cases ej : j = i
              · subst ej
                exact ⟨co, hf, fun x hx => cr x (by rw [List.drop_zero]; exact List.mem_reverse.mp hx)⟩
              · exact h.1 j (by omega) hj
            · rw [Bof_false cr, Bool.false_and]
              exact Bof_false (fun h => cr (fun y hy => (h.1 i (Nat.le_refl _) (by omega)).2.2 y (List.mem_reverse.mpr (by rw [List.drop_zero] at hy; exact hy))))
          rw [e]
          refine Ev.step (f := fun k => spec_ParticleOk.l1 k p (i : Int) ((0 : Nat) : Int) (rd_T44 p (i : Int)).f0 (rd_T44 p (i : Int)).f1 (rd_T44 p (i : Int)).f2 (rd_T44 p (i : Int)).f3) (fun k => rfl) ?_
          refine spec_l1_ev p i (by omega) (rd_T44 p (i : Int)) (hk i) _ (rd_T44 p (i : Int)).f2.length 0 (by omega) (fun hr => ih (i + 1) (by omega) (fun j hj => ?_))
          by_cases ej : j = i
          · subst ej
            exact ⟨co, hf, fun x hx => hr x (by rw [List.drop_zero]; exact List.mem_reverse.mp hx)⟩
          · exact hS j (by omega)
      exact key
    · rw [Bof_false (fun h => co (h.1 i (Nat.le_refl _) (by omega)).1)]
      refine Ev.later fun k => ?_
      simp only [spec_ParticleOk.l0]
      rw [if_pos (cast_lt (by omega)), if_pos (by omega), spec_l1In_eq, Bool.eq_false_iff.mpr co]
      rfl
theorem spec_ParticleOk_ev (p : List S44) (hk : ∀ j : Nat, (rd_T44 p (j : Int)).f2.length ≤ 140737488351232) (hn : ∀ j : Nat, (rd_T44 p (j : Int)).f1.size ≤ 140737488351232) : Ev (fun k => spec_ParticleOk.f k p) (Bof (partOk p)) := by
  unfold spec_ParticleOk.f
  by_cases c : (p.length : Int) < 1
  · simp only [c, if_true]
    rw [Bof_false (fun h => by have := h.1; omega)]
    exact Ev.later fun k => rfl
  simp only [c, if_false]
  by_cases c2 : (p.length : Int) > 40
  · rw [Bof_false (fun h => by have := h.2.1; omega)]
    refine Ev.later fun k => ?_
    simp only [spec_ParticleOk.j0, decide_eq_true c2, if_true]
  · rw [show Bof (partOk p) = Bof ((∀ j, 0 ≤ j → j < p.length → nodeS p j) ∧ endOk p) from Bof_congr ⟨fun h => h.2.2, fun h => ⟨by omega, by omega, h⟩⟩]
    refine Ev.step (fun k => ?_) (spec_l0_ev p (by omega) (by omega) hk hn p.length 0 (by omega) (fun j hj => by omega))
    simp only [spec_ParticleOk.j0, decide_eq_false c2]
    rfl
end Go.Proofs.Ytaliphegdclkfaa.PL
