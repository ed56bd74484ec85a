/- The laws' comparison of two lists of texts, at one and the same list, and their marks in a list of texts. -/
import Derived.Test.YtaliphegdclkfaaPQx10
import Derived.Test.YtaliphegdclkfaaQPBase
import Derived.Test.YtaliphegdclkfaaQPIn
namespace Go.Proofs.Ytaliphegdclkfaa.PQ
open Go.RowKit Go.Proofs.YtaliphegdclkfaaW.PrintWords Go.Proofs.YtaliphegdclkfaaW.PrintMore
set_option linter.unusedVariables false
set_option linter.unusedSimpArgs false
theorem eqStringS_self (l : List ByteArray) (hl : l.length ≤ 1000000) : Ev (fun k => laws_eqStringS.f k l l) true := by
  have main : ∀ d n, n + d = l.length → Ev (fun k => laws_eqStringS.l0 k l l (n : Int)) true := by
    intro d
    induction d with
    | zero =>
      intro n hn
      refine Ev.later fun k => ?_
      simp only [laws_eqStringS.l0]
      rw [if_neg (cast_nlt (by omega))]
    | succ d ih =>
      intro n hn
      refine Ev.step (fun k => ?_) (ih (n + 1) (by omega))
      simp only [laws_eqStringS.l0]
      rw [if_pos (cast_lt (by omega)), if_pos (by omega), if_pos (cast_lt (by omega)), if_pos trivial, wrap_succ (n := l.length) (by omega) (cast_lt (by omega)) (by omega)]
      rfl
  unfold laws_eqStringS.f
  simp only [if_true]
  exact main l.length 0 (by omega)
/-- The text that a mark is. -/
noncomputable def mtx (i : Int) : ByteArray := if h : i ≤ 1000000100 then Classical.choose (Classical.choose_spec (laws_markText_some i h)) else ⟨#[]⟩
theorem mtx_ev (i : Int) (h : i ≤ 1000000100) : Ev (fun k => laws_markText.f k i) (mtx i) := by
  have hc := Classical.choose_spec (Classical.choose_spec (laws_markText_some i h))
  have e : mtx i = Classical.choose (Classical.choose_spec (laws_markText_some i h)) := by unfold mtx; rw [dif_pos h]
  rw [e]
  exact Ev.of (fun k => laws_markText.mono i k) hc
def smk (f : Int → ByteArray) : Nat → List ByteArray
  | 0 => []
  | n + 1 => smk f n ++ [f ((n : Int) + 1)]
theorem smk_length (f : Int → ByteArray) : ∀ n, (smk f n).length = n
  | 0 => rfl
  | n + 1 => by rw [smk, List.length_append, smk_length f n]; rfl
theorem smk_rd (f : Int → ByteArray) : ∀ (N n : Nat), n < N → rdOf ByteArray.empty (smk f N) (n : Int) = f ((n : Int) + 1) := by
  intro N
  induction N with
  | zero => intro n h; omega
  | succ N ih =>
    intro n h
    have hl := smk_length f N
    unfold rdOf at ih ⊢
    rw [smk, List.getD_eq_getElem?_getD, Int.toNat_natCast]
    by_cases e : n < N
    · rw [List.getElem?_append_left (by omega)]
      have := ih n e
      rw [List.getD_eq_getElem?_getD, Int.toNat_natCast] at this
      exact this
    · obtain rfl : n = N := by omega
      rw [List.getElem?_append_right (by omega), hl]
      simp
noncomputable def smarks (n : Nat) : List ByteArray := smk mtx n
theorem smarks_zero : smarks 0 = [] := rfl
theorem smarks_succ (n : Nat) : smarks (n + 1) = smarks n ++ [mtx ((n : Int) + 1)] := by unfold smarks; rw [smk]
theorem smarks_length (n : Nat) : (smarks n).length = n := smk_length mtx n
theorem smarks_rd (N n : Nat) (h : n < N) : rdOf ByteArray.empty (smarks N) (n : Int) = mtx ((n : Int) + 1) := smk_rd mtx N n h
theorem markStringS_l0_ev : ∀ (d n : Nat) (r : List ByteArray), r.length = d → n + d ≤ 1000000 → Ev (fun k => laws_markStringS.l0 k (smarks n ++ r) ((n : Int) + 1) (n : Int)) (((n + d : Nat) : Int) + 1, smarks (n + d)) := by
  intro d
  induction d with
  | zero =>
    intro n r hr hn
    obtain rfl : r = [] := List.length_eq_zero_iff.1 hr
    refine Ev.later fun k => ?_
    simp only [laws_markStringS.l0]
    rw [List.append_nil, smarks_length, if_neg (by omega)]
    rfl
  | succ d ih =>
    intro n r hr hn
    have hl := smarks_length n
    have h := ih (n + 1) r.tail (by rw [List.length_tail]; omega) (by omega)
    rw [show n + 1 + d = n + (d + 1) by omega] at h
    refine Ev.step (f := fun k => (laws_markText.f k ((n : Int) + 1)).bind fun t => laws_markStringS.l0 k ((smarks n ++ r).set n t) (((n + 1 : Nat) : Int) + 1) ((n + 1 : Nat) : Int)) (fun k => ?_) ?_
    · simp only [laws_markStringS.l0]
      rw [if_pos (by rw [List.length_append]; omega), w64 (x := (n : Int) + 1 + 1) (by omega) (by omega), w64 (x := (n : Int) + 1) (by omega) (by omega), Int.toNat_natCast]
      simp only [if_pos (show (0 : Int) ≤ (n : Int) by omega)]
      rfl
    refine Ev.bind (mtx_ev _ (by omega)) ?_
    rw [set_next (smarks n) r n _ ByteArray.empty hl.symm (by omega)]
    rw [smarks_succ] at h
    exact h
theorem markStringS_ev (l : List ByteArray) (h : l.length ≤ 1000000) : Ev (fun k => laws_markStringS.f k l 1) ((l.length : Int) + 1, smarks l.length) := by
  unfold laws_markStringS.f
  have := markStringS_l0_ev l.length 0 l rfl (by omega)
  rw [smarks_zero] at this
  simpa using this
theorem heldStringS_l0_ev (N : Nat) (hN : N ≤ 1000000) : ∀ (d n : Nat), n + d = N → Ev (fun k => laws_heldStringS.l0 k (smarks N) ((n : Int) + 1) (n : Int)) ((N : Int) + 1) := by
  intro d
  induction d with
  | zero =>
    intro n hn
    refine Ev.later fun k => ?_
    simp only [laws_heldStringS.l0]
    rw [smarks_length, if_neg (by omega), show n = N by omega]
  | succ d ih =>
    intro n hn
    refine Ev.step (f := fun k => (laws_markText.f k ((n : Int) + 1)).bind fun t => if (mtx ((n : Int) + 1)).toList = t.toList then laws_heldStringS.l0 k (smarks N) (((n + 1 : Nat) : Int) + 1) ((n + 1 : Nat) : Int) else some (-1)) (fun k => ?_) ?_
    · simp only [laws_heldStringS.l0]
      rw [smarks_length, if_pos (by omega), if_pos (by omega), smarks_rd N n (by omega), w64 (x := (n : Int) + 1 + 1) (by omega) (by omega), w64 (x := (n : Int) + 1) (by omega) (by omega)]
      rfl
    refine Ev.bind (mtx_ev _ (by omega)) ?_
    simp only [if_true]
    exact ih (n + 1) (by omega)
theorem heldStringS_ev (N : Nat) (hN : N ≤ 1000000) : Ev (fun k => laws_heldStringS.f k (smarks N) 1) ((N : Int) + 1) := by
  unfold laws_heldStringS.f
  have := heldStringS_l0_ev N hN N 0 (by omega)
  simpa using this
end Go.Proofs.Ytaliphegdclkfaa.PQ
