/- DocOk of the reference, which walks upwards from each item, and of the program, which keeps a stack: both come to the same plain test. -/
import Derived.Test.YtbhklkpjjpkblaaDoorPNx0
import Derived.Test.YtbhklkpjjpkblaaDoorPNx3
import Derived.Test.YtbhklkpjjpkblaaDoorPNx4
import Derived.Test.YtbhklkpjjpkblaaDoorPNx5
import Derived.Test.YtbhklkpjjpkblaaDoorPNx6
import Derived.Test.YtbhklkpjjpkblaaDoorPNx11
import Derived.Test.YtbhklkpjjpkblaaDoorPNx12
import Derived.Test.YtbhklkpjjpkblaaDoorPNx13
import Derived.Test.YtbhklkpjjpkblaaDoorNPBase
import Derived.Test.YtbhklkpjjpkblaaDoorNPIn
import Derived.Test.YtbhklkpjjpkblaaDoorNPTexts
import Derived.Test.YtbhklkpjjpkblaaDoorNPItems
import Derived.Test.YtbhklkpjjpkblaaDoorNPGood
namespace Go.Proofs.YtbhklkpjjpkblaaDoor.PN
open Go.RowKit Go.Proofs.YtbhklkpjjpkblaaDoorW.PrintWords Go.Proofs.YtbhklkpjjpkblaaDoorW.PrintMore
set_option linter.unusedVariables false
set_option linter.unusedSimpArgs false
/-- From an item upwards to the first one. -/
def Ch (L : List S74) : List Nat → Prop
  | [] => False
  | [j] => j < L.length ∧ (rd_T74 L (j : Int)).f0 = -1
  | j :: e :: C => j < L.length ∧ (rd_T74 L (j : Int)).f0 = (e : Int) ∧ Ch L (e :: C)
def stk (L : List S74) (i : Nat) (C : List Nat) : List Nat := if (rd_T74 L ((i - 1 : Nat) : Int)).f1.toList = [] then C.tail else C
def notUp (L : List S74) (i : Nat) (e : Nat) : Bool := decide (¬ (e : Int) = (rd_T74 L (i : Int)).f0)
def pop (L : List S74) (i : Nat) (C : List Nat) : List Nat := (stk L i C).dropWhile (notUp L i)
def twin (L : List S74) (i : Nat) : Prop := (rd_T74 L (i : Int)).f1.toList = [] ∧ (rd_T74 L ((i - 1 : Nat) : Int)).f1.toList = [] ∧ (rd_T74 L ((i - 1 : Nat) : Int)).f0 = (rd_T74 L (i : Int)).f0
instance (L : List S74) (i : Nat) : Decidable (twin L i) := by unfold twin; infer_instance
def linkB (L : List S74) (i : Nat) (C : List Nat) : Bool := decide (¬ pop L i C = []) && (decide ((pop L i C).length < 20) && decide (¬ twin L i))
def docR (L : List S74) : Nat → Nat → List Nat → Int → Bool
  | 0, _, _, s => decide (s ≤ 2500)
  | d + 1, i, C, s => goodI (rd_T74 L (i : Int)) && (linkB L i C && docR L d (i + 1) (i :: pop L i C) (s + wB (rd_T74 L (i : Int))))
theorem docR_big (L : List S74) : ∀ d i C (s : Int), 2500 < s → docR L d i C s = false
  | 0, _, _, s, h => by rw [docR]; exact decide_eq_false (by omega)
  | d + 1, i, C, s, h => by rw [docR, docR_big L d _ _ _ (by omega)]; simp
theorem Ch_lt (L : List S74) : ∀ C, Ch L C → ∀ e ∈ C, e < L.length
  | [], h, _, _ => h.elim
  | [j], h, e, he => by
    rw [List.mem_singleton] at he
    rw [he]; exact h.1
  | j :: a :: C, h, e, he => by
    rcases List.mem_cons.1 he with e1 | e1
    · rw [e1]; exact h.1
    · exact Ch_lt L (a :: C) h.2.2 e e1
theorem Ch_drop (L : List S74) (p : Nat → Bool) : ∀ C, Ch L C → C.dropWhile p = [] ∨ Ch L (C.dropWhile p)
  | [], h => h.elim
  | [j], h => by
    rw [List.dropWhile_cons]
    split
    · left; rfl
    · right; exact h
  | j :: a :: C, h => by
    rw [List.dropWhile_cons]
    split
    · exact Ch_drop L p (a :: C) h.2.2
    · right; exact h
theorem Ch_tail (L : List S74) : ∀ C, Ch L C → C.tail = [] ∨ Ch L C.tail
  | [], h => h.elim
  | [j], _ => Or.inl rfl
  | j :: a :: C, h => Or.inr h.2.2
theorem drop_head (p : Nat → Bool) : ∀ (C : List Nat) (e : Nat) (T : List Nat), C.dropWhile p = e :: T → p e = false ∧ e ∈ C ∧ (∀ x ∈ T, x ∈ C) ∧ (e :: T).length ≤ C.length
  | [], _, _, h => by simp at h
  | a :: C, e, T, h => by
    rw [List.dropWhile_cons] at h
    by_cases c : p a = true
    · rw [if_pos c] at h
      obtain ⟨h1, h2, h3, h4⟩ := drop_head p C e T h
      exact ⟨h1, List.mem_cons_of_mem _ h2, fun x hx => List.mem_cons_of_mem _ (h3 x hx), by simp only [List.length_cons] at h4 ⊢; omega⟩
    · rw [if_neg c] at h
      injection h with ha hT
      subst ha hT
      exact ⟨Bool.eq_false_iff.mpr c, List.mem_cons_self .., fun x hx => List.mem_cons_of_mem _ hx, Nat.le_refl _⟩
theorem drop_none (p : Nat → Bool) : ∀ (C : List Nat), C.dropWhile p = [] → ∀ e ∈ C, p e = true
  | [], _, _, h => by simp at h
  | a :: C, h, e, he => by
    rw [List.dropWhile_cons] at h
    by_cases c : p a = true
    · rw [if_pos c] at h
      rcases List.mem_cons.1 he with e1 | e1
      · rw [e1]; exact c
      · exact drop_none p C h e e1
    · rw [if_neg c] at h; cases h
/-- What stands between two items: the way up from the one ahead. -/
structure Inv (L : List S74) (i : Nat) (C : List Nat) : Prop where
  ch : Ch L C
  hd : C.head? = some (i - 1)
  lt : ∀ e ∈ C, e < i
  el : ∀ e ∈ C.tail, ¬ (rd_T74 L (e : Int)).f1.toList = []
  pos : 1 ≤ i
theorem Inv.stk_el {L : List S74} {i : Nat} {C : List Nat} (h : Inv L i C) : ∀ e ∈ stk L i C, ¬ (rd_T74 L (e : Int)).f1.toList = [] := by
  intro e he
  unfold stk at he
  split at he
  · exact h.el e he
  · rename_i hn
    have hd := h.hd
    cases C with
    | nil => simp at he
    | cons a C =>
      simp only [List.head?_cons, Option.some.injEq] at hd
      rcases List.mem_cons.1 he with e1 | e1
      · rw [e1, hd]; exact hn
      · exact h.el e e1
theorem Inv.stk_in {L : List S74} {i : Nat} {C : List Nat} (h : Inv L i C) : ∀ e ∈ stk L i C, e ∈ C := by
  intro e he
  unfold stk at he
  split at he
  · exact List.mem_of_mem_tail he
  · exact he
theorem Inv.in_stk {L : List S74} {i : Nat} {C : List Nat} (h : Inv L i C) : ∀ e ∈ C, ¬ (rd_T74 L (e : Int)).f1.toList = [] → e ∈ stk L i C := by
  intro e he hn
  unfold stk
  split
  · rename_i ht
    have hd := h.hd
    cases C with
    | nil => simp at he
    | cons a C =>
      simp only [List.head?_cons, Option.some.injEq] at hd
      rcases List.mem_cons.1 he with e1 | e1
      · rw [e1, hd] at hn; exact absurd ht hn
      · exact e1
  · exact he
theorem Inv.stk_ch {L : List S74} {i : Nat} {C : List Nat} (h : Inv L i C) : stk L i C = [] ∨ Ch L (stk L i C) := by
  unfold stk
  split
  · exact Ch_tail L C h.ch
  · exact Or.inr h.ch
theorem Inv.pop_ch {L : List S74} {i : Nat} {C : List Nat} (h : Inv L i C) : pop L i C = [] ∨ Ch L (pop L i C) := by
  unfold pop
  rcases h.stk_ch with e | e
  · rw [e]; left; rfl
  · exact Ch_drop L _ _ e
theorem Inv.pop_in {L : List S74} {i : Nat} {C : List Nat} (h : Inv L i C) : ∀ e ∈ pop L i C, e ∈ stk L i C := fun e he => (List.dropWhile_sublist _).subset he
theorem Inv.next {L : List S74} {i : Nat} {C : List Nat} (h : Inv L i C) (hi : i < L.length) (hp : ¬ pop L i C = []) : Inv L (i + 1) (i :: pop L i C) := by
  have hc := h.pop_ch.resolve_left hp
  obtain ⟨e, T, eT⟩ := List.exists_cons_of_ne_nil hp
  have hh := drop_head _ _ e T (show (stk L i C).dropWhile (notUp L i) = e :: T from eT)
  have hu : (e : Int) = (rd_T74 L (i : Int)).f0 := by
    have := hh.1
    unfold notUp at this
    simpa using this
  refine ⟨?_, rfl, fun x hx => ?_, fun x hx => h.stk_el x (h.pop_in x hx), by omega⟩
  · rw [eT] at hc ⊢
    exact ⟨hi, hu.symm, hc⟩
  · rcases List.mem_cons.1 hx with e1 | e1
    · omega
    · have := h.lt x (h.stk_in x (h.pop_in x e1)); omega
/-- The way up finds what it looks for. -/
theorem walk_hit (L : List S74) (hL : L.length ≤ 200) (s x4 u : Int) (v w : ByteArray) (z : List S76) (r : Bool) (hr : Ev (fun k => spec_DocOk.j6 k L s x4 u v w z) r) : ∀ C, Ch L C → ∀ e ∈ C, (e : Int) = u → ∀ a, C.head? = some a → Ev (fun k => spec_DocOk.l2 k L s x4 (a : Int) u v w z) r
  | [], h, _, _, _, _, _ => h.elim
  | [j], h, e, he, eu, a, ha => by
    simp only [List.head?_cons, Option.some.injEq] at ha
    rw [List.mem_singleton] at he
    subst ha he
    refine Ev.step (fun k => ?_) hr
    simp only [spec_DocOk.l2]
    rw [if_pos (by omega), if_pos eu, if_neg (by omega)]
  | j :: b :: C, h, e, he, eu, a, ha => by
    simp only [List.head?_cons, Option.some.injEq] at ha
    subst ha
    by_cases c : (j : Int) = u
    · refine Ev.step (fun k => ?_) hr
      simp only [spec_DocOk.l2]
      rw [if_pos (by omega), if_pos c, if_neg (by omega)]
    · have he2 : e ∈ b :: C := by
        rcases List.mem_cons.1 he with e1 | e1
        · rw [e1] at eu; exact absurd eu c
        · exact e1
      refine Ev.step (fun k => ?_) (walk_hit L hL s x4 u v w z r hr (b :: C) h.2.2 e he2 eu b rfl)
      simp only [spec_DocOk.l2]
      rw [if_pos (by omega), if_neg c, if_pos (by omega), if_pos (by have := h.1; omega), h.2.1]
theorem walk_miss (L : List S74) (hL : L.length ≤ 200) (s x4 u : Int) (v w : ByteArray) (z : List S76) : ∀ C, Ch L C → (∀ e ∈ C, ¬ (e : Int) = u) → ∀ a, C.head? = some a → Ev (fun k => spec_DocOk.l2 k L s x4 (a : Int) u v w z) false
  | [], h, _, _, _ => h.elim
  | [j], h, hn, a, ha => by
    simp only [List.head?_cons, Option.some.injEq] at ha
    subst ha
    refine Ev.step (f := fun k => spec_DocOk.l2 k L s x4 (-1) u v w z) (fun k => ?_) (Ev.later fun k => ?_)
    · simp only [spec_DocOk.l2]
      rw [if_pos (by omega), if_neg (hn j (List.mem_cons_self ..)), if_pos (by omega), if_pos (by have := h.1; omega), h.2]
    · simp only [spec_DocOk.l2]
      rw [if_neg (by omega), if_pos (by omega)]
  | j :: b :: C, h, hn, a, ha => by
    simp only [List.head?_cons, Option.some.injEq] at ha
    subst ha
    refine Ev.step (fun k => ?_) (walk_miss L hL s x4 u v w z (b :: C) h.2.2 (fun e he => hn e (List.mem_cons_of_mem _ he)) b rfl)
    simp only [spec_DocOk.l2]
    rw [if_pos (by omega), if_neg (hn j (List.mem_cons_self ..)), if_pos (by omega), if_pos (by have := h.1; omega), h.2.1]
theorem deep_ev (L : List S74) (hL : L.length ≤ 200) : ∀ C, Ch L C → ∀ a, C.head? = some a → ∀ n : Int, 0 ≤ n → n + C.length ≤ 1000 → Ev (fun k => spec_l2Deep.l0 k L (a : Int) n) (n + C.length - 1)
  | [], h, _, _, _, _, _ => h.elim
  | [j], h, a, ha, n, _, _ => by
    simp only [List.head?_cons, Option.some.injEq] at ha
    subst ha
    refine Ev.later fun k => ?_
    simp only [spec_l2Deep.l0]
    rw [if_pos (by omega), if_pos (by have := h.1; omega), h.2, if_neg (by omega)]
    congr 1
    simp
  | j :: b :: C, h, a, ha, n, h0, h1 => by
    simp only [List.head?_cons, Option.some.injEq] at ha
    subst ha
    have hj := h.1
    have h1' : n + 1 + ((b :: C).length : Int) ≤ 1000 := by simp only [List.length_cons] at h1 ⊢; omega
    have ih := deep_ev L hL (b :: C) h.2.2 b rfl (n + 1) (by omega) h1'
    rw [show n + ((j :: b :: C).length : Int) - 1 = n + 1 + ((b :: C).length : Int) - 1 by simp only [List.length_cons]; omega]
    refine Ev.step (fun k => ?_) ih
    simp only [spec_l2Deep.l0]
    rw [if_pos (by omega), if_pos (by omega), h.2.1, if_pos (by omega), w64 (by omega) (by omega)]

/-- The stack of the program: the same, the other way round. -/
def St (S : List Nat) : List Int := S.reverse.map fun e : Nat => (e : Int)
theorem St_cons (e : Nat) (S : List Nat) : St (e :: S) = St S ++ [(e : Int)] := by simp [St]
theorem St_length (S : List Nat) : (St S).length = S.length := by simp [St]
theorem St_last (e : Nat) (S : List Nat) : rd (St (e :: S)) ((S.length : Nat) : Int) = (e : Int) := by
  rw [St_cons]
  unfold rd
  rw [List.getD_eq_getElem?_getD, Int.toNat_natCast, List.getElem?_append_right (by rw [St_length]; exact Nat.le_refl _), St_length]
  simp
theorem St_take (e : Nat) (S : List Nat) : (St (e :: S)).take S.length = St S := by
  rw [St_cons, List.take_append_of_le_length (by rw [St_length]; exact Nat.le_refl _), List.take_of_length_le (by rw [St_length]; exact Nat.le_refl _)]
theorem pop_ev (L : List S74) (s : Int) (i : Nat) (M : List S74) (n m : Int) (v w : ByteArray) (z : List S76) (r : Bool) : ∀ S : List Nat, S.length ≤ 1000 → Ev (fun k => impl_DocOk.j3 k L s (St (S.dropWhile (notUp L i))) (i : Int) M n m (rd_T74 L (i : Int)).f0 v w z) r → Ev (fun k => impl_DocOk.l1 k L s (St S) (i : Int) M n m (rd_T74 L (i : Int)).f0 v w z) r
  | [], _, hr => by
    refine Ev.step (fun k => ?_) hr
    simp only [impl_DocOk.l1]
    rw [if_neg (by simp [St])]
    rfl
  | e :: S, hl, hr => by
    simp only [List.length_cons] at hl
    have e1 : ((St (e :: S)).length : Int) = (S.length : Int) + 1 := by rw [St_length]; simp
    have e2 : wrap64 (((St (e :: S)).length : Int) - 1) = (S.length : Int) := by rw [e1, w64 (by omega) (by omega)]; omega
    rw [List.dropWhile_cons] at hr
    by_cases c : (e : Int) = (rd_T74 L (i : Int)).f0
    · rw [if_neg (by unfold notUp; simp [c])] at hr
      refine Ev.step (fun k => ?_) hr
      simp only [impl_DocOk.l1]
      rw [e2, if_pos (by omega), if_pos (by omega), if_pos (by omega), St_last, if_pos c]
    · rw [if_pos (by unfold notUp; exact decide_eq_true c)] at hr
      refine Ev.step (fun k => ?_) (pop_ev L s i M n m v w z r S (by omega) hr)
      simp only [impl_DocOk.l1]
      rw [e2, if_pos (by omega), if_pos (by omega), if_pos (by omega), St_last, if_neg c, if_pos (by omega), Int.toNat_natCast, St_take]
def smallL (L : List S74) : Prop := L.length ≤ 200 ∧ (∀ x ∈ L, smallI x) ∧ wIs L ≤ 1048576
theorem wIs_drop (l : List S74) (n : Nat) (h : n < l.length) : wIs (l.drop n) = wI l[n] + wIs (l.drop (n + 1)) := by rw [List.drop_eq_getElem_cons h, wIs_cons]
theorem wIs_le (l : List S74) : ∀ n, wIs (l.drop n) ≤ wIs l
  | 0 => by rw [List.drop_zero]; exact Nat.le_refl _
  | n + 1 => by
    have := wIs_le l n
    by_cases h : n < l.length
    · have := wIs_drop l n h; omega
    · rw [List.drop_eq_nil_of_le (by omega)]; simp [wIs]
theorem impl_Doc_l0_ev (L : List S74) (hL : smallL L) : ∀ d i C (s : Int), i + d = L.length → Inv L i C → C.length ≤ 21 → 0 ≤ s → s + wIs (L.drop i) ≤ 2000000 → Ev (fun k => impl_DocOk.l0 k L s (St (stk L i C)) L (L.length : Int) (i : Int)) (docR L d i C s) := by
  have h200 := hL.1
  intro d
  induction d with
  | zero =>
    intro i C s hi _ _ _ _
    refine Ev.later fun k => ?_
    simp only [impl_DocOk.l0]
    rw [if_neg (cast_nlt (by omega))]
    rfl
  | succ d ih =>
    intro i C s hi hI hC h0 hs
    have hi2 : i < L.length := by omega
    have e : rd_T74 L (i : Int) = L[i] := getII L i hi2
    have hx : smallI (rd_T74 L (i : Int)) := by rw [e]; exact hL.2.1 _ (List.getElem_mem _)
    have hw : wIs (L.drop i) = wI (rd_T74 L (i : Int)) + wIs (L.drop (i + 1)) := by rw [e]; exact wIs_drop L i hi2
    have hw1 : wI (rd_T74 L (i : Int)) = (rd_T74 L (i : Int)).f1.size + (rd_T74 L (i : Int)).f2.size + (rd_T74 L (i : Int)).f3.length + wAs (rd_T74 L (i : Int)).f3 := rfl
    have hw2 : wB (rd_T74 L (i : Int)) = (rd_T74 L (i : Int)).f1.size + (rd_T74 L (i : Int)).f2.size + wAs (rd_T74 L (i : Int)).f3 := rfl
    have hpos := hI.pos
    have hp1 : wrap64 ((i : Int) - 1) = ((i - 1 : Nat) : Int) := by rw [w64 (by omega) (by omega)]; omega
    rw [docR]
    have step : ∀ k, impl_DocOk.l0 (k + 1) L s (St (stk L i C)) L (L.length : Int) (i : Int) = (impl_Item_isGood.f k (rd_T74 L (i : Int)).f0 (rd_T74 L (i : Int)).f1 (rd_T74 L (i : Int)).f2 (rd_T74 L (i : Int)).f3).bind fun t233 => (if t233 = true then ((impl_Item_bytes.f k (rd_T74 L (i : Int)).f0 (rd_T74 L (i : Int)).f1 (rd_T74 L (i : Int)).f2 (rd_T74 L (i : Int)).f3).bind fun t234 => (impl_DocOk.l1 k L (wrap64 (s + t234)) (St (stk L i C)) (i : Int) L (L.length : Int) (i : Int) (rd_T74 L (i : Int)).f0 (rd_T74 L (i : Int)).f1 (rd_T74 L (i : Int)).f2 (rd_T74 L (i : Int)).f3)) else (some false)) := fun k => by
      simp only [impl_DocOk.l0]
      rw [if_pos (cast_lt hi2), if_pos (by omega), if_pos (cast_lt hi2)]
    refine Ev.step step (Ev.bind (impl_isGood_ev _ hx) ?_)
    cases goodI (rd_T74 L (i : Int)) with
    | false => simp only [Bool.false_eq_true, if_false, Bool.false_and]; exact Ev.now _
    | true =>
      simp only [if_true, Bool.true_and]
      refine Ev.bind (impl_bytes_ev _ (by omega)) ?_
      rw [w64 (x := s + (wB (rd_T74 L (i : Int)) : Int)) (by omega) (by omega)]
      have hsl : (stk L i C).length ≤ 1000 := by
        unfold stk
        split
        · rw [List.length_tail]; omega
        · omega
      refine pop_ev L _ i L _ _ _ _ _ _ (stk L i C) hsl ?_
      show Ev (fun k => impl_DocOk.j3 k L (s + (wB (rd_T74 L (i : Int)) : Int)) (St (pop L i C)) (i : Int) L (L.length : Int) (i : Int) (rd_T74 L (i : Int)).f0 (rd_T74 L (i : Int)).f1 (rd_T74 L (i : Int)).f2 (rd_T74 L (i : Int)).f3) _
      have bad : Ev (fun k => impl_DocOk.j4 k L (s + (wB (rd_T74 L (i : Int)) : Int)) (St (pop L i C)) (i : Int) L (L.length : Int) (i : Int) true (rd_T74 L (i : Int)).f0 (rd_T74 L (i : Int)).f1 (rd_T74 L (i : Int)).f2 (rd_T74 L (i : Int)).f3) false := Ev.later fun k => by simp only [impl_DocOk.j4, if_true]
      unfold linkB
      by_cases hp : pop L i C = []
      · rw [decide_eq_false (show ¬ ¬ pop L i C = [] from fun h => h hp), Bool.false_and, Bool.false_and]
        refine Ev.step (fun k => ?_) bad
        simp only [impl_DocOk.j3]
        rw [if_pos (by omega), if_pos (by rw [hp]; rfl)]
      · rw [decide_eq_true hp, Bool.true_and]
        have hne : ¬ ((St (pop L i C)).length : Int) = 0 := by
          rw [St_length]
          have := List.length_pos_iff.2 hp
          omega
        have j3 : ∀ r, Ev (fun k => impl_DocOk.j4 k L (s + (wB (rd_T74 L (i : Int)) : Int)) (St (pop L i C)) (i : Int) L (L.length : Int) (i : Int) (decide (((St (pop L i C)).length : Int) ≥ 20)) (rd_T74 L (i : Int)).f0 (rd_T74 L (i : Int)).f1 (rd_T74 L (i : Int)).f2 (rd_T74 L (i : Int)).f3) r → Ev (fun k => impl_DocOk.j3 k L (s + (wB (rd_T74 L (i : Int)) : Int)) (St (pop L i C)) (i : Int) L (L.length : Int) (i : Int) (rd_T74 L (i : Int)).f0 (rd_T74 L (i : Int)).f1 (rd_T74 L (i : Int)).f2 (rd_T74 L (i : Int)).f3) r := fun r h => by
          refine Ev.step (fun k => ?_) h
          simp only [impl_DocOk.j3]
          rw [if_pos (by omega), if_neg hne]
        refine j3 _ ?_
        rw [St_length]
        by_cases h20 : (pop L i C).length < 20
        · rw [decide_eq_true h20, Bool.true_and, decide_eq_false (by omega)]
          have hn := hI.next hi2 hp
          have hk := ih (i + 1) (i :: pop L i C) (s + (wB (rd_T74 L (i : Int)) : Int)) (by omega) hn (by simp only [List.length_cons]; omega) (by omega) (by omega)
          have hi1 : i + 1 - 1 = i := by omega
          by_cases ht : (rd_T74 L (i : Int)).f1.toList = []
          · have es : stk L (i + 1) (i :: pop L i C) = pop L i C := by unfold stk; rw [hi1, if_pos ht]; rfl
            rw [es] at hk
            by_cases hprev : (rd_T74 L ((i - 1 : Nat) : Int)).f1.toList = []
            · by_cases hup : (rd_T74 L ((i - 1 : Nat) : Int)).f0 = (rd_T74 L (i : Int)).f0
              · rw [decide_eq_false (show ¬ ¬ twin L i from fun h => h ⟨ht, hprev, hup⟩), Bool.false_and]
                refine Ev.later fun k => ?_
                simp only [impl_DocOk.j4, Bool.false_eq_true, if_false]
                rw [if_pos ht, if_pos (by omega), hp1, if_pos (by omega), if_pos (by omega), if_pos hprev, if_pos hup]
              · rw [decide_eq_true (show ¬ twin L i from fun h => hup h.2.2), Bool.true_and]
                refine Ev.step (fun k => ?_) hk
                simp only [impl_DocOk.j4, Bool.false_eq_true, if_false]
                rw [if_pos ht, if_pos (by omega), hp1, if_pos (by omega), if_pos (by omega), if_pos hprev, if_neg hup, wrap_succ (n := L.length) (by omega) (cast_lt hi2) (by omega)]
                rfl
            · rw [decide_eq_true (show ¬ twin L i from fun h => hprev h.2.1), Bool.true_and]
              refine Ev.step (fun k => ?_) hk
              simp only [impl_DocOk.j4, Bool.false_eq_true, if_false]
              rw [if_pos ht, if_pos (by omega), hp1, if_pos (by omega), if_pos (by omega), if_neg hprev, wrap_succ (n := L.length) (by omega) (cast_lt hi2) (by omega)]
              rfl
          · have es : stk L (i + 1) (i :: pop L i C) = i :: pop L i C := by unfold stk; rw [hi1, if_neg ht]
            rw [es, St_cons] at hk
            rw [decide_eq_true (show ¬ twin L i from fun h => ht h.1), Bool.true_and]
            refine Ev.step (fun k => ?_) hk
            simp only [impl_DocOk.j4, Bool.false_eq_true, if_false]
            rw [if_neg ht, if_pos (by rw [St_length]; omega), wrap_succ (n := L.length) (by omega) (cast_lt hi2) (by omega)]
            rfl
        · rw [decide_eq_false h20, Bool.false_and, Bool.false_and, decide_eq_true (by omega)]
          exact bad

theorem wAs_take (l : List S76) : ∀ n, wAs (l.take n) ≤ wAs l := by
  induction l with
  | nil => intro n; simp [wAs]
  | cons a l ih =>
    intro n
    cases n with
    | zero => simp [wAs]
    | succ n =>
      have := ih n
      rw [List.take_succ_cons, wAs_cons, wAs_cons]
      omega
theorem spec_Doc_l1_ev (L : List S74) (i u : Int) (v w : ByteArray) (z : List S76) (hz : z.length ≤ 2000000) (r : Bool) : ∀ d n (s : Int), n + d = (z.take 20).length → 0 ≤ s → s + wAs ((z.take 20).drop n) ≤ 10000000 → Ev (fun k => spec_DocOk.j3 k L (s + wAs ((z.take 20).drop n)) i u v w z) r → Ev (fun k => spec_DocOk.l1 k L s i (n : Int) u v w z) r := by
  intro d
  induction d with
  | zero =>
    intro n s hn h0 h1 hr
    rw [List.drop_eq_nil_of_le (by omega)] at hr
    have hr : Ev (fun k => spec_DocOk.j3 k L s i u v w z) r := by simpa [wAs] using hr
    refine Ev.step (fun k => ?_) hr
    simp only [spec_DocOk.l1]
    rw [List.length_take] at hn
    by_cases c : (n : Int) < (z.length : Int)
    · rw [if_pos c, if_neg (by omega)]
    · rw [if_neg c]
  | succ d ih =>
    intro n s hn h0 h1 hr
    have hn2 : n < (z.take 20).length := by omega
    have hl : (z.take 20).length = min 20 z.length := List.length_take
    have hn3 : n < z.length := by omega
    have e : rd_T76 z (n : Int) = z[n] := getIA z n hn3
    have ew := wAs_drop (z.take 20) n hn2
    rw [List.getElem_take] at ew
    have hA : wA z[n] = z[n].f0.size + z[n].f1.size := rfl
    rw [ew] at h1
    rw [ew, show s + ((wA z[n] + wAs ((z.take 20).drop (n + 1)) : Nat) : Int) = s + wA z[n] + wAs ((z.take 20).drop (n + 1)) by omega] at hr
    have h := ih (n + 1) (s + wA z[n]) (by omega) (by omega) (by omega) hr
    refine Ev.step (fun k => ?_) h
    simp only [spec_DocOk.l1]
    rw [if_pos (cast_lt hn3), if_pos (by omega), if_pos (by omega), e, wrap_succ (n := z.length) (by omega) (cast_lt hn3) (by omega), w64 (x := s + (z[n].f0.size : Int)) (by omega) (by omega), w64 (x := s + (z[n].f0.size : Int) + (z[n].f1.size : Int)) (by omega) (by omega), show s + (z[n].f0.size : Int) + (z[n].f1.size : Int) = s + wA z[n] by omega]
    rfl
def limB (x : S74) : Nat := x.f1.size + x.f2.size + wAs (x.f3.take 20)
theorem lim_good (x : S74) (h : goodI x = true) : limB x = wB x := by
  unfold limB wB
  rw [List.take_of_length_le]
  unfold goodI at h
  split at h
  · simp only [Bool.and_eq_true, decide_eq_true_eq] at h
    omega
  · unfold attrsB at h
    simp only [Bool.and_eq_true, decide_eq_true_eq] at h
    omega
/-- What the reference asks of one item behind its place: by itself, and that it is no second text. -/
theorem spec_Doc_j6_ev (L : List S74) (hL : smallL L) (i : Nat) (hi : i < L.length) (hpos : 1 ≤ i) (s dp : Int) (hd : Ev (fun k => spec_l2Deep.f k L (i : Int)) dp) (r : Bool) (hr : dp < 20 → goodI (rd_T74 L (i : Int)) = true → ¬ twin L i → Ev (fun k => spec_DocOk.l0 k L s ((i + 1 : Nat) : Int)) r) :
    Ev (fun k => spec_DocOk.j6 k L s (i : Int) (rd_T74 L (i : Int)).f0 (rd_T74 L (i : Int)).f1 (rd_T74 L (i : Int)).f2 (rd_T74 L (i : Int)).f3) (decide (dp < 20) && (goodI (rd_T74 L (i : Int)) && (decide (¬ twin L i) && r))) := by
  have h200 := hL.1
  have e : rd_T74 L (i : Int) = L[i] := getII L i hi
  have hx : smallI (rd_T74 L (i : Int)) := by rw [e]; exact hL.2.1 _ (List.getElem_mem _)
  have hp1 : wrap64 ((i : Int) - 1) = ((i - 1 : Nat) : Int) := by rw [w64 (by omega) (by omega)]; omega
  have hz := hx.2.2.1
  refine Ev.step (f := fun k => (spec_l2Deep.f k L (i : Int)).bind fun t153 => (if t153 ≥ 20 then (some false) else (if (rd_T74 L (i : Int)).f1.toList = ([] : List UInt8) then (if (rd_T74 L (i : Int)).f2.toList = ([] : List UInt8) then (spec_DocOk.j7 k L s (i : Int) true (rd_T74 L (i : Int)).f0 (rd_T74 L (i : Int)).f1 (rd_T74 L (i : Int)).f2 (rd_T74 L (i : Int)).f3) else (if ((rd_T74 L (i : Int)).f3.length : Int) > 0 then (spec_DocOk.j7 k L s (i : Int) true (rd_T74 L (i : Int)).f0 (rd_T74 L (i : Int)).f1 (rd_T74 L (i : Int)).f2 (rd_T74 L (i : Int)).f3) else ((spec_l1Text.f k (rd_T74 L (i : Int)).f2).bind fun t154 => (spec_DocOk.j7 k L s (i : Int) (!t154) (rd_T74 L (i : Int)).f0 (rd_T74 L (i : Int)).f1 (rd_T74 L (i : Int)).f2 (rd_T74 L (i : Int)).f3)))) else (if (rd_T74 L (i : Int)).f2.toList = ([] : List UInt8) then ((spec_l1Qual.f k (rd_T74 L (i : Int)).f1).bind fun t157 => (if t157 = true then ((spec_l2Attrs.f k (rd_T74 L (i : Int)).f3).bind fun t158 => (if t158 = true then (spec_DocOk.l0 k L s (wrap64 ((i : Int) + 1))) else (some false))) else (some false))) else (some false))))) (fun k => by simp only [spec_DocOk.j6]) (Ev.bind hd ?_)
  · by_cases c20 : dp ≥ 20
    · simp only [c20, if_true]
      rw [decide_eq_false (by omega), Bool.false_and]
      exact Ev.now _
    simp only [c20, if_false]
    rw [decide_eq_true (show dp < 20 by omega), Bool.true_and]
    have j7 : ∀ b : Bool, (rd_T74 L (i : Int)).f1.toList = [] → (b = true → goodI (rd_T74 L (i : Int)) = true) → Ev (fun k => spec_DocOk.j7 k L s (i : Int) (!b) (rd_T74 L (i : Int)).f0 (rd_T74 L (i : Int)).f1 (rd_T74 L (i : Int)).f2 (rd_T74 L (i : Int)).f3) (b && (decide (¬ twin L i) && r)) := by
      intro b ht hgd
      cases b with
      | false => exact Ev.later fun k => by simp only [spec_DocOk.j7, Bool.not_false, if_true, Bool.false_and]
      | true =>
        rw [Bool.true_and]
        by_cases hprev : (rd_T74 L ((i - 1 : Nat) : Int)).f1.toList = []
        · by_cases hup : (rd_T74 L ((i - 1 : Nat) : Int)).f0 = (rd_T74 L (i : Int)).f0
          · rw [decide_eq_false (show ¬ ¬ twin L i from fun h => h ⟨ht, hprev, hup⟩), Bool.false_and]
            refine Ev.later fun k => ?_
            simp only [spec_DocOk.j7, Bool.not_true, Bool.false_eq_true, if_false]
            rw [hp1, if_pos (by omega), if_pos (by omega), if_pos hprev, if_pos hup]
          · rw [decide_eq_true (show ¬ twin L i from fun h => hup h.2.2), Bool.true_and]
            refine Ev.step (fun k => ?_) (hr (by omega) (hgd rfl) (fun h => hup h.2.2))
            simp only [spec_DocOk.j7, Bool.not_true, Bool.false_eq_true, if_false]
            rw [hp1, if_pos (by omega), if_pos (by omega), if_pos hprev, if_neg hup, wrap_succ (n := L.length) (by omega) (cast_lt hi) (by omega)]
            rfl
        · rw [decide_eq_true (show ¬ twin L i from fun h => hprev h.2.1), Bool.true_and]
          refine Ev.step (fun k => ?_) (hr (by omega) (hgd rfl) (fun h => hprev h.2.1))
          simp only [spec_DocOk.j7, Bool.not_true, Bool.false_eq_true, if_false]
          rw [hp1, if_pos (by omega), if_pos (by omega), if_neg hprev, wrap_succ (n := L.length) (by omega) (cast_lt hi) (by omega)]
          rfl
    have hgu : goodI (rd_T74 L (i : Int)) = (if (rd_T74 L (i : Int)).f1.toList = [] then (decide (¬ (rd_T74 L (i : Int)).f2.toList = []) && (textB (rd_T74 L (i : Int)).f2 && decide ((rd_T74 L (i : Int)).f3.length = 0))) else (qualB (rd_T74 L (i : Int)).f1 && (decide ((rd_T74 L (i : Int)).f2.toList = []) && attrsB (rd_T74 L (i : Int)).f3))) := rfl
    have hgl := hgu
    rw [hgu]
    by_cases ht : (rd_T74 L (i : Int)).f1.toList = []
    · simp only [ht, if_true]
      by_cases hw : (rd_T74 L (i : Int)).f2.toList = []
      · simp only [hw, if_true, not_true, decide_false, Bool.false_and]
        have := j7 false ht (fun h => by cases h)
        simpa using this
      · simp only [hw, if_false, not_false_eq_true, decide_true, Bool.true_and]
        by_cases hl : ((rd_T74 L (i : Int)).f3.length : Int) > 0
        · simp only [hl, if_true]
          rw [decide_eq_false (show ¬ (rd_T74 L (i : Int)).f3.length = 0 by omega), Bool.and_false, Bool.false_and]
          have := j7 false ht (fun h => by cases h)
          simpa using this
        · simp only [hl, if_false]
          rw [decide_eq_true (show (rd_T74 L (i : Int)).f3.length = 0 by omega), Bool.and_true]
          exact Ev.bind (spec_l1Text_ev _) (j7 _ ht (fun hb => by rw [hgl, if_pos ht, decide_eq_true hw, hb, decide_eq_true (show (rd_T74 L (i : Int)).f3.length = 0 by omega)]; rfl))
    · have htw : decide (¬ twin L i) = true := decide_eq_true (fun h => ht h.1)
      simp only [ht, if_false]
      rw [htw, Bool.true_and]
      by_cases hw : (rd_T74 L (i : Int)).f2.toList = []
      · simp only [hw, if_true, decide_true, Bool.true_and]
        have hq := spec_l1Qual_ev (rd_T74 L (i : Int)).f1 (by have := hx.1; omega)
        refine Ev.bind hq ?_
        cases hqb : qualB (rd_T74 L (i : Int)).f1 with
        | false => simp only [Bool.false_eq_true, if_false, Bool.false_and]; exact Ev.now _
        | true =>
          simp only [if_true, Bool.true_and]
          refine Ev.bind (spec_Attrs_ev _ hx.2.2) ?_
          cases hab : attrsB (rd_T74 L (i : Int)).f3 with
          | false => simp only [Bool.false_eq_true, if_false, Bool.false_and]; exact Ev.now _
          | true =>
            simp only [if_true, Bool.true_and]
            rw [wrap_succ (n := L.length) (by omega) (cast_lt hi) (by omega)]
            exact hr (by omega) (by rw [hgl, if_neg ht, hqb, decide_eq_true hw, hab]; rfl) (fun h => ht h.1)
      · simp only [hw, if_false, decide_false, Bool.false_and, Bool.and_false]
        exact Ev.now _

theorem Ev.of_eq_ {α : Type} {g : Nat → Option α} {a b : α} (h : Ev g a) (e : a = b) : Ev g b := e ▸ h
theorem spec_Doc_l0_ev (L : List S74) (hL : smallL L) : ∀ d i C (s : Int), i + d = L.length → Inv L i C → C.length ≤ 21 → 0 ≤ s → s ≤ 2500 → Ev (fun k => spec_DocOk.l0 k L s (i : Int)) (docR L d i C s) := by
  have h200 := hL.1
  intro d
  induction d with
  | zero =>
    intro i C s hi _ _ _ hs
    refine Ev.later fun k => ?_
    simp only [spec_DocOk.l0]
    rw [if_neg (cast_nlt (by omega)), docR, decide_eq_true hs]
  | succ d ih =>
    intro i C s hi hI hC h0 hs
    have hi2 : i < L.length := by omega
    have e : rd_T74 L (i : Int) = L[i] := getII L i hi2
    have hx : smallI (rd_T74 L (i : Int)) := by rw [e]; exact hL.2.1 _ (List.getElem_mem _)
    have hwx : wI (rd_T74 L (i : Int)) ≤ 1048576 := by
      have h1 := wIs_drop L i hi2
      have h2 := wIs_le L i
      have h3 := hL.2.2
      rw [e]
      omega
    have hw1 : wI (rd_T74 L (i : Int)) = (rd_T74 L (i : Int)).f1.size + (rd_T74 L (i : Int)).f2.size + (rd_T74 L (i : Int)).f3.length + wAs (rd_T74 L (i : Int)).f3 := rfl
    have hlim : limB (rd_T74 L (i : Int)) = (rd_T74 L (i : Int)).f1.size + (rd_T74 L (i : Int)).f2.size + wAs ((rd_T74 L (i : Int)).f3.take 20) := rfl
    have htk := wAs_take (rd_T74 L (i : Int)).f3 20
    have hpos := hI.pos
    have hp1 : wrap64 ((i : Int) - 1) = ((i - 1 : Nat) : Int) := by rw [w64 (by omega) (by omega)]; omega
    rw [docR]
    refine Ev.step (f := fun k => spec_DocOk.l1 k L (s + (rd_T74 L (i : Int)).f1.size + (rd_T74 L (i : Int)).f2.size) (i : Int) ((0 : Nat) : Int) (rd_T74 L (i : Int)).f0 (rd_T74 L (i : Int)).f1 (rd_T74 L (i : Int)).f2 (rd_T74 L (i : Int)).f3) (fun k => ?_) ?_
    · simp only [spec_DocOk.l0]
      rw [if_pos (cast_lt hi2), if_pos (by omega), w64 (x := s + ((rd_T74 L (i : Int)).f1.size : Int)) (by omega) (by omega), w64 (by omega) (by omega)]
      rfl
    refine spec_Doc_l1_ev L _ _ _ _ _ (by omega) _ _ 0 _ (Nat.zero_add _) (by omega) (by rw [List.drop_zero]; omega) ?_
    rw [List.drop_zero, show s + ((rd_T74 L (i : Int)).f1.size : Int) + ((rd_T74 L (i : Int)).f2.size : Int) + (wAs ((rd_T74 L (i : Int)).f3.take 20) : Int) = s + (limB (rd_T74 L (i : Int)) : Int) by omega]
    have bad : ∀ (g : Nat → Option Bool), (∀ k, g (k + 1) = some false) → Ev g false := fun g h => Ev.later h
    by_cases cbig : s + (limB (rd_T74 L (i : Int)) : Int) > 2500
    · have hf : (goodI (rd_T74 L (i : Int)) && (linkB L i C && docR L d (i + 1) (i :: pop L i C) (s + (wB (rd_T74 L (i : Int)) : Int)))) = false := by
        cases hg : goodI (rd_T74 L (i : Int)) with
        | false => rfl
        | true =>
          rw [lim_good _ hg] at cbig
          rw [docR_big L d _ _ _ (by omega)]
          simp
      rw [hf]
      refine Ev.later fun k => ?_
      simp only [spec_DocOk.j3]
      rw [if_pos cbig]
    have up : ∀ r, (Ev (fun k => (spec_l1In.f (rd_T74 L (i : Int)).f0 0 ((i - 1 : Nat) : Int)).bind fun t150 => (if t150 = true then (if 0 ≤ (rd_T74 L (i : Int)).f0 then (if (rd_T74 L (i : Int)).f0 < (L.length : Int) then (if (rd_T74 L (rd_T74 L (i : Int)).f0).f1.toList = ([] : List UInt8) then (some false) else (spec_DocOk.j4 k L (s + (limB (rd_T74 L (i : Int)) : Int)) (i : Int) (rd_T74 L (i : Int)).f0 (rd_T74 L (i : Int)).f1 (rd_T74 L (i : Int)).f2 (rd_T74 L (i : Int)).f3)) else (none)) else (none)) else (some false))) r) → Ev (fun k => spec_DocOk.j3 k L (s + (limB (rd_T74 L (i : Int)) : Int)) (i : Int) (rd_T74 L (i : Int)).f0 (rd_T74 L (i : Int)).f1 (rd_T74 L (i : Int)).f2 (rd_T74 L (i : Int)).f3) r := fun r h => by
      refine Ev.step (fun k => ?_) h
      simp only [spec_DocOk.j3]
      rw [if_neg cbig, if_neg (by omega), hp1]
    refine up _ ?_
    simp only [spec_l1In_eq, Option.bind_some, inR]
    have j4 : ∀ r, Ev (fun k => spec_DocOk.l2 k L (s + (limB (rd_T74 L (i : Int)) : Int)) (i : Int) ((i - 1 : Nat) : Int) (rd_T74 L (i : Int)).f0 (rd_T74 L (i : Int)).f1 (rd_T74 L (i : Int)).f2 (rd_T74 L (i : Int)).f3) r → Ev (fun k => spec_DocOk.j4 k L (s + (limB (rd_T74 L (i : Int)) : Int)) (i : Int) (rd_T74 L (i : Int)).f0 (rd_T74 L (i : Int)).f1 (rd_T74 L (i : Int)).f2 (rd_T74 L (i : Int)).f3) r := fun r h => by
      refine Ev.step (fun k => ?_) h
      simp only [spec_DocOk.j4]
      rw [if_pos (by omega), hp1]
    by_cases hp : pop L i C = []
    · have hf : (goodI (rd_T74 L (i : Int)) && (linkB L i C && docR L d (i + 1) (i :: pop L i C) (s + (wB (rd_T74 L (i : Int)) : Int)))) = false := by
        unfold linkB
        rw [decide_eq_false (show ¬ ¬ pop L i C = [] from fun h => h hp)]
        simp
      rw [hf]
      by_cases cin : 0 ≤ (rd_T74 L (i : Int)).f0 ∧ (rd_T74 L (i : Int)).f0 ≤ ((i - 1 : Nat) : Int)
      · have q1 := cin.1
        have q2 : (rd_T74 L (i : Int)).f0 < (L.length : Int) := by omega
        have cind := decide_eq_true cin
        simp only [cind, if_true]
        simp only [q1, q2, if_true]
        by_cases cn : (rd_T74 L (rd_T74 L (i : Int)).f0).f1.toList = []
        · simp only [cn, if_true]; exact Ev.now _
        · simp only [cn, if_false]
          refine j4 _ (walk_miss L h200 _ _ _ _ _ _ C hI.ch (fun a ha hu => ?_) (i - 1) hI.hd)
          rw [← hu] at cn
          have hs2 := hI.in_stk a ha cn
          have := drop_none _ _ hp a hs2
          unfold notUp at this
          simp only [decide_eq_true_eq] at this
          exact this hu
      · simp only [decide_eq_false cin, Bool.false_eq_true, if_false]
        exact Ev.now _
    · have hc := hI.pop_ch.resolve_left hp
      obtain ⟨a, T, eT⟩ := List.exists_cons_of_ne_nil hp
      have hh := drop_head _ _ a T (show (stk L i C).dropWhile (notUp L i) = a :: T from eT)
      have hu : (a : Int) = (rd_T74 L (i : Int)).f0 := by
        have := hh.1
        unfold notUp at this
        simpa using this
      have haC := hI.stk_in a hh.2.1
      have hlt := hI.lt a haC
      have hel := hI.stk_el a hh.2.1
      have cin : 0 ≤ (rd_T74 L (i : Int)).f0 ∧ (rd_T74 L (i : Int)).f0 ≤ ((i - 1 : Nat) : Int) := by omega
      have q1 := cin.1
      have q2 : (rd_T74 L (i : Int)).f0 < (L.length : Int) := by omega
      rw [hu] at hel
      have cind := decide_eq_true cin
      simp only [cind, if_true]
      simp only [q1, q2, hel, if_true, if_false]
      have hsl : (stk L i C).length ≤ 21 := by
        unfold stk
        split
        · rw [List.length_tail]; omega
        · exact hC
      have hpl : (pop L i C).length ≤ 21 := by rw [eT]; have := hh.2.2.2; omega
      have hdeep : Ev (fun k => spec_l2Deep.f k L (i : Int)) ((pop L i C).length : Int) := by
        unfold spec_l2Deep.f
        have h1 := deep_ev L h200 (pop L i C) hc a (by rw [eT]; rfl) 1 (by omega) (by omega)
        rw [show (1 : Int) + ((pop L i C).length : Int) - 1 = ((pop L i C).length : Int) by omega, hu] at h1
        refine Ev.step (fun k => ?_) h1
        simp only [spec_l2Deep.l0]
        rw [if_pos (by omega), if_pos (cast_lt hi2), if_pos q1, w64 (x := 0 + 1) (by omega) (by omega)]
        rfl
      refine Ev.of_eq_ (j4 _ (walk_hit L h200 _ _ _ _ _ _ (docR L d (i + 1) (i :: pop L i C) (s + (wB (rd_T74 L (i : Int)) : Int)) |> fun r => decide (((pop L i C).length : Int) < 20) && (goodI (rd_T74 L (i : Int)) && (decide (¬ twin L i) && r))) (spec_Doc_j6_ev L hL i hi2 hpos _ _ hdeep _ (fun h20 hg _ => ?_)) C hI.ch a haC hu (i - 1) hI.hd)) ?_
      · have hn := hI.next hi2 hp
        have hl := lim_good _ hg
        rw [← hl]
        exact ih (i + 1) (i :: pop L i C) (s + (limB (rd_T74 L (i : Int)) : Int)) (by omega) hn (by simp only [List.length_cons]; omega) (by omega) (by omega)
      · unfold linkB
        rw [decide_eq_true hp, Bool.true_and, show decide ((pop L i C).length < 20) = decide (((pop L i C).length : Int) < 20) from by
          by_cases q : (pop L i C).length < 20
          · rw [decide_eq_true q, decide_eq_true (show ((pop L i C).length : Int) < 20 by omega)]
          · rw [decide_eq_false q, decide_eq_false (show ¬ ((pop L i C).length : Int) < 20 by omega)]]
        cases goodI (rd_T74 L (i : Int)) <;> cases decide (((pop L i C).length : Int) < 20) <;> rfl
def docB (L : List S74) : Bool := (decide (1 ≤ L.length) && decide (L.length ≤ 200)) && ((decide ((rd_T74 L 0).f0 = -1) && decide (¬ (rd_T74 L 0).f1.toList = [])) && (goodI (rd_T74 L 0) && docR L (L.length - 1) 1 [0] (wB (rd_T74 L 0))))
theorem start_inv (L : List S74) (h : 1 ≤ L.length) (hu : (rd_T74 L 0).f0 = -1) (hn : ¬ (rd_T74 L 0).f1.toList = []) : Inv L 1 [0] := ⟨⟨by omega, hu⟩, rfl, fun e he => by rw [List.mem_singleton] at he; omega, fun e he => by simp at he, by omega⟩
theorem spec_DocOk_ev (L : List S74) (hs : L.length ≤ 1048576) (hx : ∀ x ∈ L, smallI x) (hw : wIs L ≤ 1048576) : Ev (fun k => spec_DocOk.f k L) (docB L) := by
  unfold spec_DocOk.f docB
  have bad : Ev (fun k => spec_DocOk.j0 k L true) false := Ev.later fun k => by simp only [spec_DocOk.j0, if_true]
  by_cases c1 : (L.length : Int) < 1
  · simp only [c1, if_true]
    rw [decide_eq_false (show ¬ 1 ≤ L.length by omega), Bool.false_and, Bool.false_and]
    exact bad
  simp only [c1, if_false]
  rw [decide_eq_true (show 1 ≤ L.length by omega), Bool.true_and]
  by_cases c2 : (L.length : Int) > 200
  · rw [decide_eq_true c2, decide_eq_false (show ¬ L.length ≤ 200 by omega), Bool.false_and]
    exact bad
  rw [decide_eq_false c2, decide_eq_true (show L.length ≤ 200 by omega), Bool.true_and]
  have hL : smallL L := ⟨by omega, hx, hw⟩
  have h1 : 1 ≤ L.length := by omega
  have e : rd_T74 L ((0 : Nat) : Int) = L[0] := getII L 0 h1
  have hx0 : smallI (rd_T74 L 0) := by have := hx _ (List.getElem_mem h1); rw [← e] at this; exact this
  have hwx : wI (rd_T74 L 0) ≤ 1048576 := by
    have q1 := wIs_drop L 0 h1
    have q2 := wIs_le L 0
    rw [← e] at q1
    have : wI (rd_T74 L ((0 : Nat) : Int)) ≤ 1048576 := by omega
    exact this
  have hw1 : wI (rd_T74 L 0) = (rd_T74 L 0).f1.size + (rd_T74 L 0).f2.size + (rd_T74 L 0).f3.length + wAs (rd_T74 L 0).f3 := rfl
  have hlim : limB (rd_T74 L 0) = (rd_T74 L 0).f1.size + (rd_T74 L 0).f2.size + wAs ((rd_T74 L 0).f3.take 20) := rfl
  have htk := wAs_take (rd_T74 L 0).f3 20
  refine Ev.step (f := fun k => spec_DocOk.l0 k L 0 0) (fun k => by simp only [spec_DocOk.j0, Bool.false_eq_true, if_false]) ?_
  refine Ev.step (f := fun k => spec_DocOk.l1 k L (((rd_T74 L 0).f1.size : Int) + (rd_T74 L 0).f2.size) 0 ((0 : Nat) : Int) (rd_T74 L 0).f0 (rd_T74 L 0).f1 (rd_T74 L 0).f2 (rd_T74 L 0).f3) (fun k => ?_) ?_
  · simp only [spec_DocOk.l0]
    rw [if_pos (by omega), if_pos (by omega), w64 (x := 0 + ((rd_T74 L 0).f1.size : Int)) (by omega) (by omega), w64 (by omega) (by omega), Int.zero_add]
    rfl
  refine spec_Doc_l1_ev L _ _ _ _ _ (by omega) _ _ 0 _ (Nat.zero_add _) (by omega) (by rw [List.drop_zero]; omega) ?_
  rw [List.drop_zero, show ((rd_T74 L 0).f1.size : Int) + ((rd_T74 L 0).f2.size : Int) + (wAs ((rd_T74 L 0).f3.take 20) : Int) = (limB (rd_T74 L 0) : Int) by omega]
  by_cases cbig : (limB (rd_T74 L 0) : Int) > 2500
  · have hf : ((decide ((rd_T74 L 0).f0 = -1) && decide (¬ (rd_T74 L 0).f1.toList = [])) && (goodI (rd_T74 L 0) && docR L (L.length - 1) 1 [0] (wB (rd_T74 L 0)))) = false := by
      cases hg : goodI (rd_T74 L 0) with
      | false => simp
      | true =>
        rw [lim_good _ hg] at cbig
        rw [docR_big L _ _ _ _ (by omega)]
        simp
    rw [hf]
    refine Ev.later fun k => ?_
    simp only [spec_DocOk.j3]
    rw [if_pos cbig]
  by_cases cu : (rd_T74 L 0).f0 = -1
  · rw [decide_eq_true cu, Bool.true_and]
    by_cases cn : (rd_T74 L 0).f1.toList = []
    · rw [decide_eq_false (show ¬ ¬ (rd_T74 L 0).f1.toList = [] from fun h => h cn), Bool.false_and]
      refine Ev.later fun k => ?_
      simp only [spec_DocOk.j3]
      rw [if_neg cbig, if_pos trivial, if_pos cu, if_pos cn]
    · rw [decide_eq_true cn, Bool.true_and]
      have hdeep : Ev (fun k => spec_l2Deep.f k L 0) 0 := by
        unfold spec_l2Deep.f
        refine Ev.later fun k => ?_
        simp only [spec_l2Deep.l0]
        rw [if_pos (by omega), if_pos (by omega), if_neg (by omega)]
      have hgu : goodI (rd_T74 L 0) = (qualB (rd_T74 L 0).f1 && (decide ((rd_T74 L 0).f2.toList = []) && attrsB (rd_T74 L 0).f3)) := by unfold goodI; rw [if_neg cn]
      refine Ev.step (f := fun k => spec_DocOk.j4 k L (limB (rd_T74 L 0) : Int) 0 (rd_T74 L 0).f0 (rd_T74 L 0).f1 (rd_T74 L 0).f2 (rd_T74 L 0).f3) (fun k => ?_) (Ev.step (f := fun k => spec_DocOk.j6 k L (limB (rd_T74 L 0) : Int) 0 (rd_T74 L 0).f0 (rd_T74 L 0).f1 (rd_T74 L 0).f2 (rd_T74 L 0).f3) (fun k => ?_) (Ev.step (f := fun k => (spec_l2Deep.f k L 0).bind fun t153 => (if t153 ≥ 20 then (some false) else (if (rd_T74 L 0).f1.toList = ([] : List UInt8) then (if (rd_T74 L 0).f2.toList = ([] : List UInt8) then (spec_DocOk.j7 k L (limB (rd_T74 L 0) : Int) 0 true (rd_T74 L 0).f0 (rd_T74 L 0).f1 (rd_T74 L 0).f2 (rd_T74 L 0).f3) else (if ((rd_T74 L 0).f3.length : Int) > 0 then (spec_DocOk.j7 k L (limB (rd_T74 L 0) : Int) 0 true (rd_T74 L 0).f0 (rd_T74 L 0).f1 (rd_T74 L 0).f2 (rd_T74 L 0).f3) else ((spec_l1Text.f k (rd_T74 L 0).f2).bind fun t154 => (spec_DocOk.j7 k L (limB (rd_T74 L 0) : Int) 0 (!t154) (rd_T74 L 0).f0 (rd_T74 L 0).f1 (rd_T74 L 0).f2 (rd_T74 L 0).f3)))) else (if (rd_T74 L 0).f2.toList = ([] : List UInt8) then ((spec_l1Qual.f k (rd_T74 L 0).f1).bind fun t157 => (if t157 = true then ((spec_l2Attrs.f k (rd_T74 L 0).f3).bind fun t158 => (if t158 = true then (spec_DocOk.l0 k L (limB (rd_T74 L 0) : Int) (wrap64 (0 + 1))) else (some false))) else (some false))) else (some false))))) (fun k => by simp only [spec_DocOk.j6]) (Ev.bind hdeep ?_)))
      · simp only [spec_DocOk.j3]
        rw [if_neg cbig, if_pos trivial, if_pos cu, if_neg cn]
      · simp only [spec_DocOk.j4]
        rw [if_neg (by omega)]
      · simp only [show ¬ ((0 : Int) ≥ 20) by omega, if_false, cn]
        rw [hgu]
        by_cases hw0 : (rd_T74 L 0).f2.toList = []
        · simp only [hw0, if_true, decide_true, Bool.true_and]
          refine Ev.bind (spec_l1Qual_ev (rd_T74 L 0).f1 (by have := hx0.1; omega)) ?_
          cases hqb : qualB (rd_T74 L 0).f1 with
          | false => simp only [Bool.false_eq_true, if_false, Bool.false_and]; exact Ev.now _
          | true =>
            simp only [if_true, Bool.true_and]
            refine Ev.bind (spec_Attrs_ev _ hx0.2.2) ?_
            cases hab : attrsB (rd_T74 L 0).f3 with
            | false => simp only [Bool.false_eq_true, if_false, Bool.false_and]; exact Ev.now _
            | true =>
              simp only [if_true, Bool.true_and]
              have hg : goodI (rd_T74 L 0) = true := by rw [hgu, hqb, hab, decide_eq_true hw0]; rfl
              have := spec_Doc_l0_ev L hL (L.length - 1) 1 [0] (limB (rd_T74 L 0) : Int) (by omega) (start_inv L h1 cu cn) (by simp) (by omega) (by omega)
              rw [lim_good _ hg] at this ⊢
              rw [w64 (x := 0 + 1) (by omega) (by omega)]
              exact this
        · simp only [hw0, if_false, decide_false, Bool.false_and, Bool.and_false]
          exact Ev.now _
  · rw [decide_eq_false cu, Bool.false_and, Bool.false_and]
    refine Ev.later fun k => ?_
    simp only [spec_DocOk.j3]
    rw [if_neg cbig, if_pos trivial, if_neg cu]
theorem impl_DocOk_ev (L : List S74) (hs : L.length ≤ 1048576) (hx : ∀ x ∈ L, smallI x) (hw : wIs L ≤ 1048576) : Ev (fun k => impl_DocOk.f k L) (docB L) := by
  unfold impl_DocOk.f docB
  have bad : Ev (fun k => impl_DocOk.j0 k L true) false := Ev.later fun k => by simp only [impl_DocOk.j0, if_true]
  simp only [impl_in_eq, Option.bind_some, inR]
  by_cases c : 1 ≤ (L.length : Int) ∧ (L.length : Int) ≤ 200
  · have cd := decide_eq_true c
    simp only [cd, if_true]
    have h1 : 1 ≤ L.length := by omega
    rw [decide_eq_true h1, decide_eq_true (show L.length ≤ 200 by omega), Bool.true_and, Bool.true_and]
    have q0 : (0 : Int) < (L.length : Int) := by omega
    simp only [q0, if_true]
    have hL : smallL L := ⟨by omega, hx, hw⟩
    have e : rd_T74 L ((0 : Nat) : Int) = L[0] := getII L 0 h1
    have hx0 : smallI (rd_T74 L 0) := by have := hx _ (List.getElem_mem h1); rw [← e] at this; exact this
    have q1 := wIs_drop L 0 h1
    have q2 := wIs_le L 0
    rw [← e] at q1
    have q1 : wIs (L.drop 0) = wI (rd_T74 L 0) + wIs (L.drop 1) := q1
    have hwx : wI (rd_T74 L 0) ≤ 1048576 := by omega
    have hw1 : wI (rd_T74 L 0) = (rd_T74 L 0).f1.size + (rd_T74 L 0).f2.size + (rd_T74 L 0).f3.length + wAs (rd_T74 L 0).f3 := rfl
    have hw2 : wB (rd_T74 L 0) = (rd_T74 L 0).f1.size + (rd_T74 L 0).f2.size + wAs (rd_T74 L 0).f3 := rfl
    by_cases cu : (rd_T74 L 0).f0 = -1
    · simp only [cu, if_true, decide_true, Bool.true_and]
      by_cases cn : (rd_T74 L 0).f1.toList = []
      · rw [decide_eq_false (show ¬ ¬ (rd_T74 L 0).f1.toList = [] from fun h => h cn), Bool.false_and, show ((rd_T74 L 0).f1.toList == ([] : List UInt8)) = true from beq_iff_eq.mpr cn]
        exact bad
      · rw [decide_eq_true cn, Bool.true_and, show ((rd_T74 L 0).f1.toList == ([] : List UInt8)) = false from beq_eq_false_iff_ne.mpr cn]
        refine Ev.step (f := fun k => impl_DocOk.l0 k L 0 [] L (L.length : Int) 0) (fun k => by simp only [impl_DocOk.j0, Bool.false_eq_true, if_false]) ?_
        refine Ev.step (f := fun k => (impl_Item_isGood.f k (rd_T74 L 0).f0 (rd_T74 L 0).f1 (rd_T74 L 0).f2 (rd_T74 L 0).f3).bind fun t233 => (if t233 = true then ((impl_Item_bytes.f k (rd_T74 L 0).f0 (rd_T74 L 0).f1 (rd_T74 L 0).f2 (rd_T74 L 0).f3).bind fun t234 => (impl_DocOk.l1 k L (wrap64 (0 + t234)) [] 0 L (L.length : Int) 0 (rd_T74 L 0).f0 (rd_T74 L 0).f1 (rd_T74 L 0).f2 (rd_T74 L 0).f3)) else (some false))) (fun k => ?_) (Ev.bind (impl_isGood_ev _ hx0) ?_)
        · simp only [impl_DocOk.l0]
          rw [if_pos q0, if_pos (by omega), if_pos q0]
        · cases hg : goodI (rd_T74 L 0) with
          | false => simp only [Bool.false_eq_true, if_false, Bool.false_and]; exact Ev.now _
          | true =>
            simp only [if_true, Bool.true_and]
            refine Ev.bind (impl_bytes_ev _ (by omega)) ?_
            rw [w64 (x := 0 + (wB (rd_T74 L 0) : Int)) (by omega) (by omega), Int.zero_add]
            have hk := impl_Doc_l0_ev L hL (L.length - 1) 1 [0] (wB (rd_T74 L 0) : Int) (by omega) (start_inv L h1 cu cn) (by simp) (by omega) (by omega)
            have es : stk L 1 [0] = [0] := by unfold stk; rw [if_neg (show ¬ (rd_T74 L ((1 - 1 : Nat) : Int)).f1.toList = [] from cn)]
            rw [es] at hk
            refine Ev.step (f := fun k => impl_DocOk.j3 k L (wB (rd_T74 L 0) : Int) [] 0 L (L.length : Int) 0 (rd_T74 L 0).f0 (rd_T74 L 0).f1 (rd_T74 L 0).f2 (rd_T74 L 0).f3) (fun k => ?_) (Ev.step (f := fun k => impl_DocOk.j4 k L (wB (rd_T74 L 0) : Int) [] 0 L (L.length : Int) 0 false (rd_T74 L 0).f0 (rd_T74 L 0).f1 (rd_T74 L 0).f2 (rd_T74 L 0).f3) (fun k => ?_) (Ev.step (fun k => ?_) hk))
            · simp only [impl_DocOk.l1]
              rw [if_neg (by simp)]
            · simp only [impl_DocOk.j3]
              rw [if_neg (by omega), decide_eq_false (by simp)]
            · simp only [impl_DocOk.j4, Bool.false_eq_true, if_false]
              rw [if_neg cn, if_pos (by simp), w64 (x := 0 + 1) (by omega) (by omega)]
              rfl
    · simp only [cu, if_false, decide_false, Bool.false_and]
      exact bad
  · have cd := decide_eq_false c
    simp only [cd, Bool.false_eq_true, if_false]
    have : (decide (1 ≤ L.length) && decide (L.length ≤ 200)) = false := by
      by_cases q : 1 ≤ L.length
      · rw [decide_eq_false (show ¬ L.length ≤ 200 by omega), Bool.and_false]
      · rw [decide_eq_false q, Bool.false_and]
    rw [this, Bool.false_and]
    exact bad
/-- A copy of what the row lets in is small. -/
theorem wA_mem {l : List S76} {y : S76} (h : y ∈ l) : wA y ≤ wAs l := by
  induction l with
  | nil => cases h
  | cons a l ih =>
    rw [wAs_cons]
    rcases List.mem_cons.1 h with e | e
    · rw [e]; omega
    · have := ih e; omega
theorem wI_mem {l : List S74} {y : S74} (h : y ∈ l) : wI y ≤ wIs l := by
  induction l with
  | nil => cases h
  | cons a l ih =>
    rw [wIs_cons]
    rcases List.mem_cons.1 h with e | e
    · rw [e]; omega
    · have := ih e; omega
theorem small_of {l : List S74} (h : wIs l ≤ 1048576) : ∀ x ∈ l, smallI x := by
  intro x hx
  have h1 := wI_mem hx
  have hw1 : wI x = x.f1.size + x.f2.size + x.f3.length + wAs x.f3 := rfl
  refine ⟨by omega, by omega, by omega, fun y hy => ?_⟩
  have h2 := wA_mem hy
  have hw2 : wA y = y.f0.size + y.f1.size := rfl
  omega
end Go.Proofs.YtbhklkpjjpkblaaDoor.PN
