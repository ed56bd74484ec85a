/- The laws' marks in a list of an expression's nodes, and their being read back; the comparison of such a list with itself. -/
import Derived.Test.YtomfhenoblfckaaDoorPTx0
import Derived.Test.YtomfhenoblfckaaDoorPTx3
import Derived.Test.YtomfhenoblfckaaDoorPTx4
import Derived.Test.YtomfhenoblfckaaDoorPTx5
import Derived.Test.YtomfhenoblfckaaDoorTPBase
import Derived.Test.YtomfhenoblfckaaDoorTPIn
namespace Go.Proofs.YtomfhenoblfckaaDoor.PT
open Go.RowKit Go.Proofs.YtomfhenoblfckaaDoorW.PrintWords
set_option linter.unusedVariables false
set_option linter.unusedSimpArgs false
abbrev RN := S55
abbrev RG := S57
theorem rdN_at (d : List RN) (x : RN) (l : List RN) : rd_T55 (d ++ x :: l) (d.length : Int) = x := by
  unfold rd_T55
  simp [List.getD_eq_getElem?_getD]
theorem rdG_at (d : List RG) (x : RG) (l : List RG) : rd_T57 (d ++ x :: l) (d.length : Int) = x := by
  unfold rd_T57
  simp [List.getD_eq_getElem?_getD]
theorem set_at {α : Type} (d : List α) (x a : α) (l : List α) : (d ++ x :: l).set d.length a = d ++ a :: l := by simp
theorem lt_app {α : Type} (d : List α) (x : α) (l : List α) : (d.length : Int) < ((d ++ x :: l).length : Int) := by rw [List.length_append, List.length_cons]; omega
theorem app_one {α : Type} (d : List α) (x : α) (l : List α) : d ++ x :: l = (d ++ [x]) ++ l := by simp
def mR : Int → Nat → List RG
  | _, 0 => []
  | c, n + 1 => ⟨c, c + 1⟩ :: mR (c + 2) n
theorem mR_length : ∀ (n : Nat) (c : Int), (mR c n).length = n
  | 0, _ => rfl
  | n + 1, c => by rw [mR, List.length_cons, mR_length n]
theorem markRange_l0 : ∀ (r d : List RG) (c : Int), 0 ≤ c → c + 2 * r.length ≤ 1000000 → d.length + r.length ≤ 1000000 → Ev (fun k => laws_markRangeS.l0 k (d ++ r) c (d.length : Int)) (c + 2 * (r.length : Int), d ++ mR c r.length) := by
  intro r
  induction r with
  | nil =>
    intro d c h0 h1 h2
    refine Ev.later fun k => ?_
    simp only [laws_markRangeS.l0, List.append_nil, List.length_nil, mR]
    rw [if_neg (by omega)]
    simp
  | cons x r ih =>
    intro d c h0 h1 h2
    rw [List.length_cons] at h1 h2 ⊢
    have h := ih (d ++ [⟨c, c + 1⟩]) (c + 2) (by omega) (by omega) (by simp; omega)
    rw [← app_one, ← app_one] at h
    refine Ev.step (f := fun k => laws_markRangeS.l0 k (d ++ ⟨c, c + 1⟩ :: r) (c + 2) ((d ++ [⟨c, c + 1⟩] : List RG).length : Int)) (fun k => ?_) ?_
    · simp only [laws_markRangeS.l0]
      rw [if_pos (lt_app _ _ _), if_pos (by omega), Option.bind_some, rdG_at, Int.toNat_natCast, set_at, rdG_at, set_at, w64 (x := c + 1) (by omega) (by omega), w64 (x := c + 1 + 1) (by omega) (by omega), w64 (x := (d.length : Int) + 1) (by omega) (by omega), show c + 1 + 1 = c + 2 by omega]
      simp
    · have e : (c + 2 * ((r.length + 1 : Nat) : Int), d ++ mR c (r.length + 1)) = ((c + 2) + 2 * (r.length : Int), d ++ ⟨c, c + 1⟩ :: mR (c + 2) r.length) := by rw [mR]; congr 1; omega
      rw [e]
      exact h
theorem markRange_ev (r : List RG) (c : Int) (h0 : 0 ≤ c) (h1 : c + 2 * r.length ≤ 1000000) : Ev (fun k => laws_markRangeS.f k r c) (c + 2 * (r.length : Int), mR c r.length) := by
  unfold laws_markRangeS.f
  have := markRange_l0 r [] c h0 h1 (by simp; omega)
  simpa using this
theorem heldRange_l0 : ∀ (n : Nat) (d : List RG) (c : Int), 0 ≤ c → c + 2 * n ≤ 1000000 → d.length + n ≤ 1000000 → Ev (fun k => laws_heldRangeS.l0 k (d ++ mR c n) c (d.length : Int)) (c + 2 * (n : Int)) := by
  intro n
  induction n with
  | zero =>
    intro d c h0 h1 h2
    refine Ev.later fun k => ?_
    simp only [laws_heldRangeS.l0, mR, List.append_nil]
    rw [if_neg (by omega)]
    simp
  | succ n ih =>
    intro d c h0 h1 h2
    have h := ih (d ++ [⟨c, c + 1⟩]) (c + 2) (by omega) (by omega) (by simp; omega)
    rw [← app_one] at h
    refine Ev.step (f := fun k => laws_heldRangeS.l0 k (d ++ ⟨c, c + 1⟩ :: mR (c + 2) n) (c + 2) ((d ++ [⟨c, c + 1⟩] : List RG).length : Int)) (fun k => ?_) ?_
    · rw [show mR c (n + 1) = ⟨c, c + 1⟩ :: mR (c + 2) n from rfl]
      simp only [laws_heldRangeS.l0]
      rw [if_pos (lt_app _ _ _), if_pos (by omega), rdG_at, if_pos rfl, w64 (x := c + 1) (by omega) (by omega), if_pos rfl, w64 (x := c + 1 + 1) (by omega) (by omega), w64 (x := (d.length : Int) + 1) (by omega) (by omega), show c + 1 + 1 = c + 2 by omega]
      simp
    · rw [show c + 2 * ((n + 1 : Nat) : Int) = (c + 2) + 2 * (n : Int) by omega]
      exact h
theorem heldRange_ev (n : Nat) (c : Int) (h0 : 0 ≤ c) (h1 : c + 2 * n ≤ 1000000) : Ev (fun k => laws_heldRangeS.f k (mR c n) c) (c + 2 * (n : Int)) := by
  unfold laws_heldRangeS.f
  have := heldRange_l0 n [] c h0 h1 (by simp; omega)
  simpa using this
/-- How many marks a list takes. -/
def wN : List RN → Nat
  | [] => 0
  | x :: l => 6 + 2 * x.f2.length + wN l
def mN : Int → List RN → List RN
  | _, [] => []
  | c, x :: l => ⟨c, Int.tmod (c + 1) 3 == 0, mR (c + 2) x.f2.length, c + 2 + 2 * x.f2.length, c + 2 + 2 * x.f2.length + 1, c + 2 + 2 * x.f2.length + 2, c + 2 + 2 * x.f2.length + 3⟩ :: mN (c + 2 + 2 * x.f2.length + 4) l
theorem mN_length : ∀ (l : List RN) (c : Int), (mN c l).length = l.length
  | [], _ => rfl
  | x :: l, c => by rw [mN, List.length_cons, List.length_cons, mN_length l]
theorem markN_l0 : ∀ (r d : List RN) (c : Int), 0 ≤ c → c + wN r ≤ 1000000 → d.length + r.length ≤ 1000000 → Ev (fun k => laws_markRNodeS.l0 k (d ++ r) c (d.length : Int)) (c + (wN r : Int), d ++ mN c r) := by
  intro r
  induction r with
  | nil =>
    intro d c h0 h1 h2
    refine Ev.later fun k => ?_
    simp only [laws_markRNodeS.l0, List.append_nil, wN, mN]
    rw [if_neg (by omega)]
    simp
  | cons x r ih =>
    intro d c h0 h1 h2
    rw [List.length_cons] at h2
    rw [wN] at h1
    obtain ⟨p, hp⟩ : ∃ p : Int, p = c + 2 + 2 * x.f2.length := ⟨_, rfl⟩
    obtain ⟨x', hx'⟩ : ∃ x' : RN, x' = ⟨c, Int.tmod (c + 1) 3 == 0, mR (c + 2) x.f2.length, p, p + 1, p + 2, p + 3⟩ := ⟨_, rfl⟩
    have h := ih (d ++ [x']) (p + 4) (by omega) (by omega) (by simp; omega)
    rw [← app_one, ← app_one] at h
    have e : (c + (wN (x :: r) : Int), d ++ mN c (x :: r)) = ((p + 4) + (wN r : Int), d ++ x' :: mN (p + 4) r) := by rw [mN, wN, hx', hp]; congr 1; omega
    rw [e]
    refine Ev.step (f := fun k => (laws_markRangeS.f k x.f2 (c + 2)).bind fun q => laws_markRNodeS.l0 k (d ++ ⟨c, Int.tmod (c + 1) 3 == 0, q.2, q.1, wrap64 (q.1 + 1), wrap64 (wrap64 (q.1 + 1) + 1), wrap64 (wrap64 (wrap64 (q.1 + 1) + 1) + 1)⟩ :: r) (wrap64 (wrap64 (wrap64 (wrap64 (q.1 + 1) + 1) + 1) + 1)) ((d ++ [x'] : List RN).length : Int)) (fun k => ?_) ?_
    · simp only [laws_markRNodeS.l0]
      rw [if_pos (lt_app _ _ _), if_pos (by omega), rdN_at, Int.toNat_natCast, w64 (x := c + 1) (by omega) (by omega), w64 (x := c + 1 + 1) (by omega) (by omega), w64 (x := (d.length : Int) + 1) (by omega) (by omega), show c + 1 + 1 = c + 2 by omega]
      simp only [set_at, List.length_append, List.length_cons, List.length_nil, Nat.zero_add]
      rfl
    · refine Ev.bind (markRange_ev x.f2 (c + 2) (by omega) (by omega)) ?_
      rw [← hp]
      simp only []
      rw [w64 (x := p + 1) (by omega) (by omega), w64 (x := p + 1 + 1) (by omega) (by omega), w64 (x := p + 1 + 1 + 1) (by omega) (by omega), w64 (x := p + 1 + 1 + 1 + 1) (by omega) (by omega), show p + 1 + 1 + 1 + 1 = p + 4 by omega, show p + 1 + 1 + 1 = p + 3 by omega, show p + 1 + 1 = p + 2 by omega, ← hx']
      exact h
theorem markN_ev (r : List RN) (h1 : wN r + 1 ≤ 1000000) (h2 : r.length ≤ 1000000) : Ev (fun k => laws_markRNodeS.f k r 1) (1 + (wN r : Int), mN 1 r) := by
  unfold laws_markRNodeS.f
  have := markN_l0 r [] 1 (by omega) (by omega) (by simp; omega)
  simpa using this
theorem heldN_l0 : ∀ (r d : List RN) (c : Int), 0 ≤ c → c + wN r ≤ 1000000 → d.length + r.length ≤ 1000000 → Ev (fun k => laws_heldRNodeS.l0 k (d ++ mN c r) c (d.length : Int)) (c + (wN r : Int)) := by
  intro r
  induction r with
  | nil =>
    intro d c h0 h1 h2
    refine Ev.later fun k => ?_
    simp only [laws_heldRNodeS.l0, mN, List.append_nil, wN]
    rw [if_neg (by omega)]
    simp
  | cons x r ih =>
    intro d c h0 h1 h2
    rw [List.length_cons] at h2
    rw [wN] at h1
    obtain ⟨p, hp⟩ : ∃ p : Int, p = c + 2 + 2 * x.f2.length := ⟨_, rfl⟩
    obtain ⟨x', hx'⟩ : ∃ x' : RN, x' = ⟨c, Int.tmod (c + 1) 3 == 0, mR (c + 2) x.f2.length, p, p + 1, p + 2, p + 3⟩ := ⟨_, rfl⟩
    have h := ih (d ++ [x']) (p + 4) (by omega) (by omega) (by simp; omega)
    rw [← app_one] at h
    have e : mN c (x :: r) = x' :: mN (p + 4) r := by rw [mN, hx', hp]
    have e2 : c + (wN (x :: r) : Int) = (p + 4) + (wN r : Int) := by rw [wN, hp]; omega
    rw [e, e2]
    refine Ev.step (f := fun k => (laws_heldRangeS.f k (mR (c + 2) x.f2.length) (c + 2)).bind fun q => if q < 0 then some (-1) else if p = q then (if p + 1 = wrap64 (q + 1) then (if p + 2 = wrap64 (wrap64 (q + 1) + 1) then (if p + 3 = wrap64 (wrap64 (wrap64 (q + 1) + 1) + 1) then laws_heldRNodeS.l0 k (d ++ x' :: mN (p + 4) r) (wrap64 (wrap64 (wrap64 (wrap64 (q + 1) + 1) + 1) + 1)) ((d ++ [x'] : List RN).length : Int) else some (-1)) else some (-1)) else some (-1)) else some (-1)) (fun k => ?_) ?_
    · simp only [laws_heldRNodeS.l0]
      rw [if_pos (lt_app _ _ _), if_pos (by omega), rdN_at, w64 (x := c + 1) (by omega) (by omega), w64 (x := c + 1 + 1) (by omega) (by omega), w64 (x := (d.length : Int) + 1) (by omega) (by omega), show c + 1 + 1 = c + 2 by omega]
      simp only [hx', if_true, bne_self_eq_false, Bool.false_eq_true, if_false, List.length_append, List.length_cons, List.length_nil, Nat.zero_add]
      rfl
    · refine Ev.bind (heldRange_ev x.f2.length (c + 2) (by omega) (by omega)) ?_
      rw [← hp]
      rw [w64 (x := p + 1) (by omega) (by omega), w64 (x := p + 1 + 1) (by omega) (by omega), w64 (x := p + 1 + 1 + 1) (by omega) (by omega), w64 (x := p + 1 + 1 + 1 + 1) (by omega) (by omega), show p + 1 + 1 + 1 + 1 = p + 4 by omega, show p + 1 + 1 + 1 = p + 3 by omega, show p + 1 + 1 = p + 2 by omega]
      simp only [show ¬ p < 0 by omega, if_false, if_true]
      exact h
theorem heldN_ev (r : List RN) (h1 : wN r + 1 ≤ 1000000) (h2 : r.length ≤ 1000000) : Ev (fun k => laws_heldRNodeS.f k (mN 1 r) 1) (1 + (wN r : Int)) := by
  unfold laws_heldRNodeS.f
  have := heldN_l0 r [] 1 (by omega) (by omega) (by simp; omega)
  simpa using this
theorem eqRange_l0 (l : List RG) (hl : l.length ≤ 1000000) : ∀ (d n : Nat), n + d = l.length → Ev (fun k => laws_eqRangeS.l0 k l l (n : Int)) true := by
  intro d
  induction d with
  | zero =>
    intro n hn
    refine Ev.later fun k => ?_
    simp only [laws_eqRangeS.l0]
    rw [if_neg (cast_nlt (by omega))]
  | succ d ih =>
    intro n hn
    refine Ev.step (f := fun k => laws_eqRangeS.l0 k l l ((n + 1 : Nat) : Int)) (fun k => ?_) (ih (n + 1) (by omega))
    simp only [laws_eqRangeS.l0, laws_eqRange.f, if_true, Option.bind_some]
    rw [if_pos (cast_lt (by omega)), if_pos (by omega), if_pos (cast_lt (by omega)), wrap_succ (n := l.length) (by omega) (cast_lt (by omega)) (by omega)]
    rfl
theorem eqRange_self (l : List RG) (hl : l.length ≤ 1000000) : Ev (fun k => laws_eqRangeS.f k l l) true := by
  unfold laws_eqRangeS.f
  simp only [if_true]
  exact eqRange_l0 l hl l.length 0 (by omega)
theorem eqN_l0 (l : List RN) (hl : l.length ≤ 1000000) (hr : ∀ x ∈ l, x.f2.length ≤ 1000000) : ∀ (d n : Nat), n + d = l.length → Ev (fun k => laws_eqRNodeS.l0 k l l (n : Int)) true := by
  intro d
  induction d with
  | zero =>
    intro n hn
    refine Ev.later fun k => ?_
    simp only [laws_eqRNodeS.l0]
    rw [if_neg (cast_nlt (by omega))]
  | succ d ih =>
    intro n hn
    have hx : rd_T55 l (n : Int) ∈ l := by
      have hi : n < l.length := by omega
      unfold rd_T55
      simp only [Int.toNat_natCast, List.getD_eq_getElem?_getD, List.getElem?_eq_getElem hi, Option.getD_some]
      exact List.getElem_mem hi
    have hb := eqRange_self _ (hr _ hx)
    refine Ev.step (f := fun k => (laws_eqRangeS.f k (rd_T55 l (n : Int)).f2 (rd_T55 l (n : Int)).f2).bind fun t => if t = true then laws_eqRNodeS.l0 k l l ((n + 1 : Nat) : Int) else some false) (fun k => ?_) ?_
    · simp only [laws_eqRNodeS.l0, laws_eqRNode.f, if_true, bne_self_eq_false, Bool.false_eq_true, if_false]
      rw [if_pos (cast_lt (by omega)), if_pos (by omega), if_pos (cast_lt (by omega)), wrap_succ (n := l.length) (by omega) (cast_lt (by omega)) (by omega)]
      cases laws_eqRangeS.f k (rd_T55 l (n : Int)).f2 (rd_T55 l (n : Int)).f2 with
      | none => rfl
      | some t => cases t <;> rfl
    · refine Ev.bind hb ?_
      simp only [if_true]
      exact ih (n + 1) (by omega)
theorem eqN_self (l : List RN) (hl : l.length ≤ 1000000) (hr : ∀ x ∈ l, x.f2.length ≤ 1000000) : Ev (fun k => laws_eqRNodeS.f k l l) true := by
  unfold laws_eqRNodeS.f
  simp only [if_true]
  exact eqN_l0 l hl hr l.length 0 (by omega)
end Go.Proofs.YtomfhenoblfckaaDoor.PT
