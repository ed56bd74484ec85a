/- A date's text: both sides come to the same. -/
import Derived.Test.YtdfopjmokbcnlaaDoorPRx1
import Derived.Test.YtdfopjmokbcnlaaDoorPRx2
import Derived.Test.YtdfopjmokbcnlaaDoorPRx4
import Derived.Test.YtdfopjmokbcnlaaDoorPRx5
import Derived.Test.YtdfopjmokbcnlaaDoorRPBase
import Derived.Test.YtdfopjmokbcnlaaDoorRPIn
import Derived.Test.YtdfopjmokbcnlaaDoorRPDigits
import Derived.Test.YtdfopjmokbcnlaaDoorRPDateOk
import Derived.Test.YtdfopjmokbcnlaaDoorRPReadDate
namespace Go.Proofs.YtdfopjmokbcnlaaDoor.PR
open Go.RowKit Go.Proofs.YtdfopjmokbcnlaaDoorW.PrintWords Go.Proofs.YtdfopjmokbcnlaaDoorW.PrintMore
set_option linter.unusedVariables false
set_option linter.unusedSimpArgs false
theorem readT_sep {s : ByteArray} (h : ¬ P6 s) : readT s = zero9 := by
  unfold readT
  split
  · rfl
  · rfl
theorem readT_neg {s : ByteArray} (c : prt s 0 4 = -1 ∨ prt s 5 2 = -1 ∨ prt s 8 2 = -1 ∨ prt s 11 2 = -1 ∨ prt s 14 2 = -1 ∨ prt s 17 2 = -1) : readT s = zero9 := by
  unfold readT
  split
  · rfl
  · split
    · exact date_neg _ c
    · rfl
theorem f2 (s : ByteArray) (hs : s.size ≤ 2000000) {x4 : List Int} (hx : x4.length ≤ 100) (a : Nat) (ha : a + 2 ≤ 19) (f0 : bt (⟨#[48, 48, 48, 48, 45, 48, 48, 45, 48, 48, 84, 48, 48, 58, 48, 48, 58, 48, 48]⟩ : ByteArray) (a : Int) = 48) (f1 : bt (⟨#[48, 48, 48, 48, 45, 48, 48, 45, 48, 48, 84, 48, 48, 58, 48, 48, 58, 48, 48]⟩ : ByteArray) ((a + 1 : Nat) : Int) = 48) (hf : a + 2 = 19 ∨ bt (⟨#[48, 48, 48, 48, 45, 48, 48, 45, 48, 48, 84, 48, 48, 58, 48, 48, 58, 48, 48]⟩ : ByteArray) ((a + 2 : Nat) : Int) ≠ 48) {R : Int × Int × Int × Int × Int × Int × Bool × Int × Bool}
    (hr : ¬ prt s a 2 = -1 → Ev (fun k => impl_ReadDate.l0 k s (x4 ++ [prt s a 2]) ((a + 2 : Nat) : Int)) R) (hz : prt s a 2 = -1 → R = zero9) : Ev (fun k => impl_ReadDate.l0 k s x4 (a : Int)) R := by
  refine l0_num s a (by omega) f0 (Ev.step (fun k => l1_go s a (by omega) f0) (Ev.step (fun k => l1_go s (a + 1) (by omega) f1) ?_))
  exact l1_num s hs hx a 2 ha (by omega) (by omega) hf hr hz
theorem f4 (s : ByteArray) (hs : s.size ≤ 2000000) {R : Int × Int × Int × Int × Int × Int × Bool × Int × Bool}
    (hr : ¬ prt s 0 4 = -1 → Ev (fun k => impl_ReadDate.l0 k s ([] ++ [prt s 0 4]) ((4 : Nat) : Int)) R) (hz : prt s 0 4 = -1 → R = zero9) : Ev (fun k => impl_ReadDate.l0 k s [] ((0 : Nat) : Int)) R := by
  refine l0_num s 0 (by omega) rfl (Ev.step (fun k => l1_go s 0 (by omega) rfl) (Ev.step (fun k => l1_go s 1 (by omega) rfl) (Ev.step (fun k => l1_go s 2 (by omega) rfl) (Ev.step (fun k => l1_go s 3 (by omega) rfl) ?_))))
  exact l1_num s hs (by simp) 0 4 (by omega) (by omega) (by omega) (Or.inr (by decide)) hr hz
theorem impl_ReadDate_ev (s : ByteArray) (hs : s.size ≤ 2000000) : Ev (fun k => impl_ReadDate.f k s) (readT s) := by
  unfold impl_ReadDate.f
  by_cases c : (s.size : Int) < 19
  · simp only [c, if_true]
    have : readT s = zero9 := by unfold readT; rw [if_pos (by omega)]
    rw [this]
    exact Ev.now _
  simp only [c, if_false]
  have hz : 19 ≤ s.size := by omega
  have sep : ∀ {q : Prop}, (P6 s → q) → ¬ q → readT s = zero9 := fun h hn => readT_sep (fun hp => hn (h hp))
  refine f4 s hs (fun _ => ?_) (fun h => readT_neg (Or.inl h))
  refine l0_sep s 4 45 (by omega) hz rfl (by decide) (fun s1 => ?_) (sep fun h => h.1)
  refine f2 s hs (by simp) 5 (by omega) rfl rfl (Or.inr (by decide)) (fun _ => ?_) (fun h => readT_neg (Or.inr (Or.inl h)))
  refine l0_sep s 7 45 (by omega) hz rfl (by decide) (fun s2 => ?_) (sep fun h => h.2.1)
  refine f2 s hs (by simp) 8 (by omega) rfl rfl (Or.inr (by decide)) (fun _ => ?_) (fun h => readT_neg (Or.inr (Or.inr (Or.inl h))))
  refine l0_sep s 10 84 (by omega) hz rfl (by decide) (fun s3 => ?_) (sep fun h => h.2.2.1)
  refine f2 s hs (by simp) 11 (by omega) rfl rfl (Or.inr (by decide)) (fun _ => ?_) (fun h => readT_neg (Or.inr (Or.inr (Or.inr (Or.inl h)))))
  refine l0_sep s 13 58 (by omega) hz rfl (by decide) (fun s4 => ?_) (sep fun h => h.2.2.2.1)
  refine f2 s hs (by simp) 14 (by omega) rfl rfl (Or.inr (by decide)) (fun _ => ?_) (fun h => readT_neg (Or.inr (Or.inr (Or.inr (Or.inr (Or.inl h))))))
  refine l0_sep s 16 58 (by omega) hz rfl (by decide) (fun s5 => ?_) (sep fun h => h.2.2.2.2)
  refine f2 s hs (by simp) 17 (by omega) rfl rfl (Or.inl rfl) (fun _ => ?_) (fun h => readT_neg (Or.inr (Or.inr (Or.inr (Or.inr (Or.inr h))))))
  have e : readT s = dateT (prt s 0 4) (prt s 5 2) (prt s 8 2) (prt s 11 2) (prt s 14 2) (prt s 17 2) (zoneT (s.extract 19 s.size)) := by
    unfold readT
    rw [if_neg (by omega), if_pos (show P6 s from ⟨s1, s2, s3, s4, s5⟩)]
  rw [e]
  exact l0_end s hs hz _ _ _ _ _ _
theorem spec_ReadDate_ev (s : ByteArray) (hs : s.size ≤ 2000000) : Ev (fun k => spec_ReadDate.f k s) (readT s) := by
  unfold spec_ReadDate.f
  have bad : Ev (fun k => spec_ReadDate.j0 k s true) zero9 := Ev.later fun k => by simp only [spec_ReadDate.j0, if_true]; rfl
  by_cases c : (s.size : Int) < 19
  · simp only [c, if_true]
    have : readT s = zero9 := by unfold readT; rw [if_pos (by omega)]
    rw [this]
    exact bad
  simp only [c, if_false]
  have z4 : (4 : Int) < (s.size : Int) := by omega
  have z7 : (7 : Int) < (s.size : Int) := by omega
  have z10 : (10 : Int) < (s.size : Int) := by omega
  have z13 : (13 : Int) < (s.size : Int) := by omega
  have z16 : (16 : Int) < (s.size : Int) := by omega
  simp only [z4, if_true]
  by_cases s1 : bt s 4 = 45
  rotate_left
  · simp only [s1, if_false]; rw [readT_sep (fun h => s1 h.1)]; exact bad
  simp only [s1, z7, if_true]
  by_cases s2 : bt s 7 = 45
  rotate_left
  · simp only [s2, if_false]; rw [readT_sep (fun h => s2 h.2.1)]; exact bad
  simp only [s2, z10, if_true]
  by_cases s3 : bt s 10 = 84
  rotate_left
  · simp only [s3, if_false]; rw [readT_sep (fun h => s3 h.2.2.1)]; exact bad
  simp only [s3, z13, if_true]
  by_cases s4 : bt s 13 = 58
  rotate_left
  · simp only [s4, if_false]; rw [readT_sep (fun h => s4 h.2.2.2.1)]; exact bad
  simp only [s4, z16, if_true]
  by_cases s5 : bt s 16 = 58
  rotate_left
  · rw [readT_sep (fun h => s5 h.2.2.2.2), show (bt s 16 != 58) = true from bne_iff_ne.mpr s5]; exact bad
  rw [show (bt s 16 != 58) = false from by rw [s5]; rfl]
  have e : readT s = dateT (prt s 0 4) (prt s 5 2) (prt s 8 2) (prt s 11 2) (prt s 14 2) (prt s 17 2) (zoneT (s.extract 19 s.size)) := by
    unfold readT
    rw [if_neg (by omega), if_pos (show P6 s from ⟨s1, s2, s3, s4, s5⟩)]
  rw [e]
  have p1 : Ev (fun k => spec_l5Part.f k s 0 4) (prt s 0 4) := spec_Part_ev s hs 0 4 (by omega) (by omega)
  have p2 : Ev (fun k => spec_l5Part.f k s 5 2) (prt s 5 2) := spec_Part_ev s hs 5 2 (by omega) (by omega)
  have p3 : Ev (fun k => spec_l5Part.f k s 8 2) (prt s 8 2) := spec_Part_ev s hs 8 2 (by omega) (by omega)
  have p4 : Ev (fun k => spec_l5Part.f k s 11 2) (prt s 11 2) := spec_Part_ev s hs 11 2 (by omega) (by omega)
  have p5 : Ev (fun k => spec_l5Part.f k s 14 2) (prt s 14 2) := spec_Part_ev s hs 14 2 (by omega) (by omega)
  have p6 : Ev (fun k => spec_l5Part.f k s 17 2) (prt s 17 2) := spec_Part_ev s hs 17 2 (by omega) (by omega)
  have hrs : (s.extract 19 s.size).size ≤ 2000000 := by rw [ByteArray.size_extract]; omega
  have q1 : Ev (fun k => spec_l5Part.f k (s.extract 19 s.size) 1 2) (prt (s.extract 19 s.size) 1 2) := spec_Part_ev _ hrs 1 2 (by omega) (by omega)
  have q2 : Ev (fun k => spec_l5Part.f k (s.extract 19 s.size) 4 2) (prt (s.extract 19 s.size) 4 2) := spec_Part_ev _ hrs 4 2 (by omega) (by omega)
  have z19 : (19 : Int) ≤ (s.size : Int) := by omega
  obtain ⟨r, hr⟩ : ∃ r, r = s.extract 19 s.size := ⟨_, rfl⟩
  rw [← hr] at e hrs q1 q2
  rw [← hr]
  generalize prt s 0 4 = y at *
  generalize prt s 5 2 = mo at *
  generalize prt s 8 2 = d at *
  generalize prt s 11 2 = h at *
  generalize prt s 14 2 = mi at *
  generalize prt s 17 2 = se at *
  have g1 := prt_range r 1 2 (by omega)
  have g2 := prt_range r 4 2 (by omega)
  have dat : ∀ (z : Bool) (zo : Int), Ev (fun k => (spec_DateOk.f k y mo d h mi se z zo).bind fun t => if t = true then some (y, mo, d, h, mi, se, z, zo, true) else some (0, 0, 0, 0, 0, 0, false, 0, false)) (dateT y mo d h mi se (z, zo, true)) := fun z zo => by
    refine Ev.bind (spec_DateOk_ev y mo d h mi se z zo) ?_
    unfold dateT
    simp only [if_true]
    by_cases c : dok y mo d h mi se z zo = true
    · simp only [c, if_true]; exact Ev.now _
    · simp only [c, if_false]; exact Ev.now _
  refine Ev.step (f := ?f) (fun k => ?a) ?b
  case a => simp only [spec_ReadDate.j0, Bool.false_eq_true, if_false]; rfl
  case b =>
    refine Ev.bind p1 (Ev.bind p2 (Ev.bind p3 (Ev.bind p4 (Ev.bind p5 (Ev.bind p6 ?_)))))
    simp only [z19, if_true, ← hr]
    clear hr
    by_cases r1 : r.toList = [90]
    · simp only [r1, if_true]
      have : zoneT r = (true, 0, true) := by unfold zoneT; rw [if_neg (by rw [r1]; simp), if_pos r1]
      rw [this]
      exact dat true 0
    simp only [r1, if_false]
    by_cases r2 : r.toList = []
    · simp only [r2, if_true]
      have : zoneT r = (false, 0, true) := by unfold zoneT; rw [if_pos r2]
      rw [this]
      exact dat false 0
    simp only [r2, if_false]
    refine Ev.bind q1 (Ev.bind q2 ?_)
    have hz : zoneT r = if r.size = 6 ∧ (bt r 0 = 43 ∨ bt r 0 = 45) ∧ bt r 3 = 58 ∧ (0 ≤ prt r 1 2 ∧ prt r 1 2 ≤ 14) ∧ (0 ≤ prt r 4 2 ∧ prt r 4 2 ≤ 59) then (true, if bt r 0 = 45 then -(60 * prt r 1 2 + prt r 4 2) else 60 * prt r 1 2 + prt r 4 2, true) else (true, 0, false) := by
      unfold zoneT
      rw [if_neg r2, if_neg r1]
    have jbad : (zoneT r).2.2 = false → Ev (fun k => spec_ReadDate.j1 k r (prt r 1 2) (prt r 4 2) true y mo d h mi se false 0) (dateT y mo d h mi se (zoneT r)) := fun hq => by
      have : dateT y mo d h mi se (zoneT r) = zero9 := by unfold dateT; rw [hq]; rfl
      rw [this]
      exact Ev.later fun k => by simp only [spec_ReadDate.j1, if_true]; rfl
    have no : ¬ (r.size = 6 ∧ (bt r 0 = 43 ∨ bt r 0 = 45) ∧ bt r 3 = 58 ∧ (0 ≤ prt r 1 2 ∧ prt r 1 2 ≤ 14) ∧ (0 ≤ prt r 4 2 ∧ prt r 4 2 ≤ 59)) → (zoneT r).2.2 = false := fun hq => by rw [hz, if_neg hq]
    by_cases r3 : r.size = 6
    rotate_left
    · have : ¬ (r.size : Int) = 6 := by omega
      simp only [this, if_false]
      exact jbad (no fun q => r3 q.1)
    have r3i : (r.size : Int) = 6 := by omega
    have tail : bt r 0 = 43 ∨ bt r 0 = 45 → Ev (fun k => if bt r 3 = 58 then ((spec_l1In.f (prt r 1 2) 0 14).bind fun t127 => (if t127 = true then ((spec_l1In.f (prt r 4 2) 0 59).bind fun t128 => (spec_ReadDate.j1 k r (prt r 1 2) (prt r 4 2) (!t128) y mo d h mi se false 0)) else (spec_ReadDate.j1 k r (prt r 1 2) (prt r 4 2) true y mo d h mi se false 0))) else (spec_ReadDate.j1 k r (prt r 1 2) (prt r 4 2) true y mo d h mi se false 0)) (dateT y mo d h mi se (zoneT r)) := fun hb => by
      by_cases r4 : bt r 3 = 58
      rotate_left
      · simp only [r4, if_false]
        exact jbad (no fun q => r4 q.2.2.1)
      simp only [r4, if_true, spec_l1In_eq, Option.bind_some]
      by_cases r5 : inR (prt r 1 2) 0 14 = true
      rotate_left
      · simp only [r5, if_false]
        exact jbad (no fun q => r5 (inR_true.2 q.2.2.2.1))
      simp only [r5, if_true]
      by_cases r6 : inR (prt r 4 2) 0 59 = true
      rotate_left
      · rw [Bool.eq_false_iff.mpr r6]
        exact jbad (no fun q => r6 (inR_true.2 q.2.2.2.2))
      rw [r6]
      have b1 := inR_true.1 r5
      have b2 := inR_true.1 r6
      have hz2 : zoneT r = (true, (if bt r 0 = 45 then -(60 * prt r 1 2 + prt r 4 2) else 60 * prt r 1 2 + prt r 4 2), true) := by
        have cT : r.size = 6 ∧ (bt r 0 = 43 ∨ bt r 0 = 45) ∧ bt r 3 = 58 ∧ (0 ≤ prt r 1 2 ∧ prt r 1 2 ≤ 14) ∧ (0 ≤ prt r 4 2 ∧ prt r 4 2 ≤ 59) := ⟨r3, hb, r4, b1, b2⟩
        rw [hz, if_pos cT]
      rw [hz2]
      by_cases r7 : bt r 0 = 45
      · rw [if_pos r7]
        refine Ev.step (fun k => ?_) (dat true (-(60 * prt r 1 2 + prt r 4 2)))
        simp only [spec_ReadDate.j1, Bool.not_true, Bool.false_eq_true, if_false]
        rw [if_pos (by omega), if_pos r7, w64 (x := 60 * prt r 1 2) (by omega) (by omega), w64 (x := 60 * prt r 1 2 + prt r 4 2) (by omega) (by omega), w64 (x := -(60 * prt r 1 2 + prt r 4 2)) (by omega) (by omega)]
      · rw [if_neg r7]
        refine Ev.step (fun k => ?_) (dat true (60 * prt r 1 2 + prt r 4 2))
        simp only [spec_ReadDate.j1, Bool.not_true, Bool.false_eq_true, if_false]
        rw [if_pos (by omega), if_neg r7, w64 (x := 60 * prt r 1 2) (by omega) (by omega), w64 (x := 60 * prt r 1 2 + prt r 4 2) (by omega) (by omega)]
    have z0 : (0 : Int) < (r.size : Int) := by omega
    have z3 : (3 : Int) < (r.size : Int) := by omega
    generalize dateT y mo d h mi se (zoneT r) = R at tail jbad ⊢
    by_cases a : bt r 0 = 43
    · have t1 := tail (Or.inl a)
      simp only [z0, z3, r3i, a, if_true, show (0 : Int) < 6 by omega, show (3 : Int) < 6 by omega] at t1 ⊢
      exact t1
    · by_cases b : bt r 0 = 45
      · have t1 := tail (Or.inr b)
        simp only [z0, z3, r3i, a, b, if_true, if_false, show (0 : Int) < 6 by omega, show (3 : Int) < 6 by omega] at t1 ⊢
        exact t1
      · simp only [z0, z3, r3i, a, b, if_true, if_false, show (0 : Int) < 6 by omega, show (3 : Int) < 6 by omega]
        exact jbad (no fun q => q.2.1.elim a b)
theorem eqDate_self (y mo d h mi se : Int) (z : Bool) (zo : Int) : laws_eqDate.f y mo d h mi se z zo y mo d h mi se z zo = some true := by
  unfold laws_eqDate.f
  simp
end Go.Proofs.YtdfopjmokbcnlaaDoor.PR
