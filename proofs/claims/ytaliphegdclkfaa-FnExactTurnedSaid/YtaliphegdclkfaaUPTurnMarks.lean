/- The laws' marks in a list of particles that is somebody's own, and their being read back. -/
import Derived.Test.YtaliphegdclkfaaPUx0
import Derived.Test.YtaliphegdclkfaaPUx2
import Derived.Test.YtaliphegdclkfaaPUx10
import Derived.Test.YtaliphegdclkfaaUPBase
import Derived.Test.YtaliphegdclkfaaUPIn
namespace Go.Proofs.Ytaliphegdclkfaa.PU
open Go.RowKit Go.Proofs.YtaliphegdclkfaaW.PrintWords Go.Proofs.YtaliphegdclkfaaW.PrintMore
set_option linter.unusedVariables false
set_option linter.unusedSimpArgs false
abbrev PNd := S44
theorem laws_markText_some (y : Int) (h : y ≤ 1000000100) : ∃ k r, laws_markText.f k y = some r := by
  have main : ∀ (d : Nat) (y : Int) (s : ByteArray), y ≤ 1000000100 → y < 10 ^ d → s.size + d ≤ 1000 → ∃ k r, laws_markText.l0 k y s = some r := by
    intro d
    induction d with
    | zero =>
      intro y s hm hy hs
      have hy2 : ¬ y > 0 := by simp at hy; omega
      exact ⟨1, _, by simp only [laws_markText.l0]; rw [if_neg hy2, if_pos (by omega)]⟩
    | succ d ih =>
      intro y s hm hy hs
      by_cases c : y > 0
      · have e1 : (strOfNums [(wrap64 (48 + (Int.tmod y 10))) % 256]).size = 1 := rfl
        have hw0 : wrap64 (Int.tdiv y 10) = y / 10 := by
          rw [Int.tdiv_eq_ediv_of_nonneg (by omega)]
          unfold wrap64
          omega
        have hw : y / 10 < 10 ^ d := by
          rw [Int.pow_succ] at hy
          omega
        have hn : ∃ k r, laws_markText.l0 k (wrap64 (Int.tdiv y 10)) (strOfNums [(wrap64 (48 + (Int.tmod y 10))) % 256] ++ s) = some r := by
          have hsz : (strOfNums [(wrap64 (48 + (Int.tmod y 10))) % 256] ++ s).size = 1 + s.size := by rw [ByteArray.size_append, e1]
          rw [hw0]
          exact ih _ _ (by omega) hw (by omega)
        obtain ⟨k, r, hk⟩ := hn
        refine ⟨k + 1, r, ?_⟩
        simp only [laws_markText.l0]
        rw [if_pos c]
        simp only [Option.bind_some]
        rw [if_pos (by omega)]
        exact hk
      · exact ⟨1, _, by simp only [laws_markText.l0]; rw [if_neg c, if_pos (by omega)]⟩
  unfold laws_markText.f
  by_cases c : y ≤ 0
  · exact ⟨0, _, by rw [if_pos c]⟩
  · obtain ⟨k, r, hk⟩ := main 10 y ⟨#[]⟩ h (by omega) (by decide)
    exact ⟨k, r, by rw [if_neg c]; exact hk⟩
set_option maxHeartbeats 8000000 in
set_option maxRecDepth 100000 in
/-- The text that a mark is. -/
noncomputable def mtx (i : Int) : ByteArray := if h : i ≤ 1000000100 then Classical.choose (Classical.choose_spec (laws_markText_some i h)) else ⟨#[]⟩
theorem mtx_ev (i : Int) (h : i ≤ 1000000100) : Ev (fun k => laws_markText.f k i) (mtx i) := by
  have hc := Classical.choose_spec (Classical.choose_spec (laws_markText_some i h))
  have e : mtx i = Classical.choose (Classical.choose_spec (laws_markText_some i h)) := by unfold mtx; rw [dif_pos h]
  rw [e]
  exact Ev.of (fun k => laws_markText.mono i k) hc
theorem rdP_at (d : List PNd) (x : PNd) (l : List PNd) : rd_T44 (d ++ x :: l) (d.length : Int) = x := by
  unfold rd_T44
  simp [List.getD_eq_getElem?_getD]
theorem rdI_at (d : List Int) (x : Int) (l : List Int) : rd (d ++ x :: l) (d.length : Int) = x := by
  unfold rd
  simp [List.getD_eq_getElem?_getD]
theorem set_at {α : Type} (d : List α) (x a : α) (l : List α) : (d ++ x :: l).set d.length a = d ++ a :: l := by simp
theorem lt_app {α : Type} (d : List α) (x : α) (l : List α) : (d.length : Int) < ((d ++ x :: l).length : Int) := by rw [List.length_append, List.length_cons]; omega
theorem app_one {α : Type} (d : List α) (x : α) (l : List α) : d ++ x :: l = (d ++ [x]) ++ l := by simp
def mI : Int → Nat → List Int
  | _, 0 => []
  | c, n + 1 => c :: mI (c + 1) n
theorem mI_length : ∀ (n : Nat) (c : Int), (mI c n).length = n
  | 0, _ => rfl
  | n + 1, c => by rw [mI, List.length_cons, mI_length n]
theorem markInt_l0 : ∀ (r d : List Int) (c : Int), 0 ≤ c → c + r.length ≤ 9000000 → d.length + r.length ≤ 9000000 → Ev (fun k => laws_markInt64S.l0 k (d ++ r) c (d.length : Int)) (c + (r.length : Int), d ++ mI c r.length) := by
  intro r
  induction r with
  | nil =>
    intro d c h0 h1 h2
    refine Ev.later fun k => ?_
    simp only [laws_markInt64S.l0, List.append_nil, List.length_nil, mI]
    rw [if_neg (by omega)]
    simp
  | cons x r ih =>
    intro d c h0 h1 h2
    rw [List.length_cons] at h1 h2 ⊢
    have h := ih (d ++ [c]) (c + 1) (by omega) (by omega) (by simp; omega)
    rw [← app_one, ← app_one] at h
    refine Ev.step (f := fun k => laws_markInt64S.l0 k (d ++ c :: r) (c + 1) ((d ++ [c] : List Int).length : Int)) (fun k => ?_) ?_
    · simp only [laws_markInt64S.l0]
      rw [if_pos (lt_app _ _ _), if_pos (by omega), Int.toNat_natCast, set_at, w64 (x := c + 1) (by omega) (by omega), w64 (x := (d.length : Int) + 1) (by omega) (by omega)]
      simp
    · have e : (c + ((r.length + 1 : Nat) : Int), d ++ mI c (r.length + 1)) = ((c + 1) + (r.length : Int), d ++ c :: mI (c + 1) r.length) := by rw [mI]; congr 1; omega
      rw [e]
      exact h
theorem markInt_ev (r : List Int) (c : Int) (h0 : 0 ≤ c) (h1 : c + r.length ≤ 9000000) : Ev (fun k => laws_markInt64S.f k r c) (c + (r.length : Int), mI c r.length) := by
  unfold laws_markInt64S.f
  have := markInt_l0 r [] c h0 h1 (by simp; omega)
  simpa using this
theorem heldInt_l0 : ∀ (n : Nat) (d : List Int) (c : Int), 0 ≤ c → c + n ≤ 9000000 → d.length + n ≤ 9000000 → Ev (fun k => laws_heldInt64S.l0 k (d ++ mI c n) c (d.length : Int)) (c + (n : Int)) := by
  intro n
  induction n with
  | zero =>
    intro d c h0 h1 h2
    refine Ev.later fun k => ?_
    simp only [laws_heldInt64S.l0, mI, List.append_nil]
    rw [if_neg (by omega)]
    simp
  | succ n ih =>
    intro d c h0 h1 h2
    have h := ih (d ++ [c]) (c + 1) (by omega) (by omega) (by simp; omega)
    rw [← app_one] at h
    refine Ev.step (f := fun k => laws_heldInt64S.l0 k (d ++ c :: mI (c + 1) n) (c + 1) ((d ++ [c] : List Int).length : Int)) (fun k => ?_) ?_
    · rw [show mI c (n + 1) = c :: mI (c + 1) n from rfl]
      simp only [laws_heldInt64S.l0]
      rw [if_pos (lt_app _ _ _), if_pos (by omega), rdI_at, if_pos rfl, w64 (x := c + 1) (by omega) (by omega), w64 (x := (d.length : Int) + 1) (by omega) (by omega)]
      simp
    · rw [show c + ((n + 1 : Nat) : Int) = (c + 1) + (n : Int) by omega]
      exact h
theorem heldInt_ev (n : Nat) (c : Int) (h0 : 0 ≤ c) (h1 : c + n ≤ 9000000) : Ev (fun k => laws_heldInt64S.f k (mI c n) c) (c + (n : Int)) := by
  unfold laws_heldInt64S.f
  have := heldInt_l0 n [] c h0 h1 (by simp; omega)
  simpa using this
/-- How many marks a list takes. -/
def wM : List PNd → Nat
  | [] => 0
  | x :: l => 3 + x.f2.length + wM l
noncomputable def mM : Int → List PNd → List PNd
  | _, [] => []
  | c, x :: l => ⟨c, mtx (c + 1), mI (c + 2) x.f2.length, c + 2 + x.f2.length⟩ :: mM (c + 3 + x.f2.length) l
theorem mM_length : ∀ (l : List PNd) (c : Int), (mM c l).length = l.length
  | [], _ => rfl
  | x :: l, c => by rw [mM, List.length_cons, List.length_cons, mM_length l]
theorem markM_l0 : ∀ (r d : List PNd) (c : Int), 0 ≤ c → c + wM r ≤ 9000000 → d.length + r.length ≤ 9000000 → Ev (fun k => laws_markPNodeS.l0 k (d ++ r) c (d.length : Int)) (c + (wM r : Int), d ++ mM c r) := by
  intro r
  induction r with
  | nil =>
    intro d c h0 h1 h2
    refine Ev.later fun k => ?_
    simp only [laws_markPNodeS.l0, List.append_nil, wM, mM]
    rw [if_neg (by omega)]
    simp
  | cons x r ih =>
    intro d c h0 h1 h2
    rw [List.length_cons] at h2
    rw [wM] at h1
    obtain ⟨p, hp⟩ : ∃ p : Int, p = c + 2 + x.f2.length := ⟨_, rfl⟩
    obtain ⟨x', hx'⟩ : ∃ x' : PNd, x' = ⟨c, mtx (c + 1), mI (c + 2) x.f2.length, p⟩ := ⟨_, rfl⟩
    have h := ih (d ++ [x']) (p + 1) (by omega) (by omega) (by simp; omega)
    rw [← app_one, ← app_one] at h
    have e : (c + (wM (x :: r) : Int), d ++ mM c (x :: r)) = ((p + 1) + (wM r : Int), d ++ x' :: mM (p + 1) r) := by
      rw [mM, wM, hx', hp, show c + 3 + (x.f2.length : Int) = c + 2 + x.f2.length + 1 by omega]; congr 1; omega
    rw [e]
    refine Ev.step (f := fun k => (laws_markText.f k (c + 1)).bind fun t => (laws_markInt64S.f k x.f2 (c + 2)).bind fun q => laws_markPNodeS.l0 k (d ++ ⟨c, t, q.2, q.1⟩ :: r) (wrap64 (q.1 + 1)) ((d ++ [x'] : List PNd).length : Int)) (fun k => ?_) ?_
    · simp only [laws_markPNodeS.l0]
      rw [if_pos (lt_app _ _ _), if_pos (by omega), rdP_at, Int.toNat_natCast, w64 (x := c + 1) (by omega) (by omega), w64 (x := c + 1 + 1) (by omega) (by omega), w64 (x := (d.length : Int) + 1) (by omega) (by omega), show c + 1 + 1 = c + 2 by omega]
      simp only [set_at, List.length_append, List.length_cons, List.length_nil, Nat.zero_add]
      rfl
    · refine Ev.bind (mtx_ev (c + 1) (by omega)) (Ev.bind (markInt_ev x.f2 (c + 2) (by omega) (by omega)) ?_)
      rw [← hp]
      simp only []
      rw [w64 (x := p + 1) (by omega) (by omega), ← hx']
      exact h
theorem markM_ev (r : List PNd) (h1 : wM r + 1 ≤ 9000000) (h2 : r.length ≤ 9000000) : Ev (fun k => laws_markPNodeS.f k r 1) (1 + (wM r : Int), mM 1 r) := by
  unfold laws_markPNodeS.f
  have := markM_l0 r [] 1 (by omega) (by omega) (by simp; omega)
  simpa using this
theorem heldM_l0 : ∀ (r : List PNd) (d : List PNd) (c : Int), 0 ≤ c → c + wM r ≤ 9000000 → d.length + r.length ≤ 9000000 → Ev (fun k => laws_heldPNodeS.l0 k (d ++ mM c r) c (d.length : Int)) (c + (wM r : Int)) := by
  intro r
  induction r with
  | nil =>
    intro d c h0 h1 h2
    refine Ev.later fun k => ?_
    simp only [laws_heldPNodeS.l0, mM, wM, List.append_nil]
    rw [if_neg (by omega)]
    simp
  | cons x r ih =>
    intro d c h0 h1 h2
    rw [List.length_cons] at h2
    rw [wM] at h1
    obtain ⟨p, hp⟩ : ∃ p : Int, p = c + 2 + x.f2.length := ⟨_, rfl⟩
    obtain ⟨x', hx'⟩ : ∃ x' : PNd, x' = ⟨c, mtx (c + 1), mI (c + 2) x.f2.length, p⟩ := ⟨_, rfl⟩
    have h := ih (d ++ [x']) (p + 1) (by omega) (by omega) (by simp; omega)
    rw [← app_one] at h
    have e : mM c (x :: r) = x' :: mM (p + 1) r := by rw [mM, hx', hp, show c + 3 + (x.f2.length : Int) = c + 2 + x.f2.length + 1 by omega]
    have e2 : c + (wM (x :: r) : Int) = (p + 1) + (wM r : Int) := by rw [wM, hp]; omega
    rw [e, e2]
    refine Ev.step (f := fun k => (laws_markText.f k (c + 1)).bind fun t => if x'.f1.toList = t.toList then ((laws_heldInt64S.f k x'.f2 (c + 2)).bind fun q => (if q < 0 then (some (-1)) else (if x'.f3 = q then (laws_heldPNodeS.l0 k (d ++ x' :: mM (p + 1) r) (wrap64 (q + 1)) ((d ++ [x'] : List PNd).length : Int)) else (some (-1))))) else (some (-1))) (fun k => ?_) ?_
    · simp only [laws_heldPNodeS.l0]
      rw [if_pos (lt_app _ _ _), if_pos (by omega), rdP_at, if_pos (show x'.f0 = c by rw [hx']), w64 (x := c + 1) (by omega) (by omega), w64 (x := c + 1 + 1) (by omega) (by omega), w64 (x := (d.length : Int) + 1) (by omega) (by omega), show c + 1 + 1 = c + 2 by omega]
      simp only [List.length_append, List.length_cons, List.length_nil, Nat.zero_add]
      rfl
    · refine Ev.bind (mtx_ev (c + 1) (by omega)) ?_
      simp only [show x'.f1.toList = (mtx (c + 1)).toList by rw [hx'], if_true]
      have hh := heldInt_ev x.f2.length (c + 2) (by omega) (by omega)
      rw [show mI (c + 2) x.f2.length = x'.f2 by rw [hx'], ← hp] at hh
      refine Ev.bind hh ?_
      simp only [if_neg (show ¬ p < 0 by omega), show x'.f3 = p by rw [hx'], if_true]
      rw [w64 (x := p + 1) (by omega) (by omega)]
      exact h
theorem heldM_ev (r : List PNd) (h1 : wM r + 1 ≤ 9000000) (h2 : r.length ≤ 9000000) : Ev (fun k => laws_heldPNodeS.f k (mM 1 r) 1) (1 + (wM r : Int)) := by
  unfold laws_heldPNodeS.f
  have := heldM_l0 r [] 1 (by omega) (by omega) (by simp; omega)
  simpa using this
end Go.Proofs.Ytaliphegdclkfaa.PU
