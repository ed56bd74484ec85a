/- A drawn date: there always is one. -/
import Derived.Test.YtdfopjmokbcnlaaPVx3
import Derived.Test.YtdfopjmokbcnlaaPVx4
import Derived.Test.YtdfopjmokbcnlaaPVx5
import Derived.Test.YtdfopjmokbcnlaaVPBase
import Derived.Test.YtdfopjmokbcnlaaVPIn
import Derived.Test.YtdfopjmokbcnlaaVPDates
import Derived.Test.YtdfopjmokbcnlaaVPDrawB
namespace Go.Proofs.Ytdfopjmokbcnlaa.PV
open Go.RowKit Go.Proofs.YtdfopjmokbcnlaaW.PrintWords
set_option linter.unusedVariables false
set_option linter.unusedSimpArgs false
theorem once_b {b : List Int} {p : Int} (h : Rd b p) (n : Int) (hn : 1 ≤ n) : ∃ v p', spec_l1Rd_once.f b p n = some (v, p') ∧ Rd b p' := by
  obtain ⟨v, p', e, _, _, hr⟩ := below_some h n hn
  unfold spec_l1Rd_once.f
  rw [e]
  exact ⟨_, p', rfl, hr⟩
theorem word_l0 {b : List Int} : ∀ (m : Nat) (x : Int) (n : Nat) (p : Int), n + m = 8 → Rd b p → ∃ v p', Rd b p' ∧ Ev (fun k => spec_l1Rd_word.l0 k x (n : Int) b p) (v, p') := by
  intro m
  induction m with
  | zero =>
    intro x n p hn h
    exact ⟨x, p, h, Ev.later fun k => by rw [spec_l1Rd_word.l0, if_neg (by omega)]⟩
  | succ m ih =>
    intro x n p hn h
    obtain ⟨v, p', e, _, _, hr⟩ := next_some h
    obtain ⟨v', p'', hr', hev⟩ := ih (Go.bits .or .u64 (IntKind.u64.wrap (x * 256)) (IntKind.u64.wrap v)) (n + 1) p' (by omega) hr
    refine ⟨v', p'', hr', Ev.step (fun k => ?_) hev⟩
    rw [spec_l1Rd_word.l0, if_pos (by omega), e, Option.bind_some, w64 (x := (n : Int) + 1) (by omega) (by omega)]
    rfl
theorem near_ev {b : List Int} {p : Int} (h : Rd b p) (lo hi : Int) (h1 : -10000 ≤ lo) (h2 : lo ≤ hi) (h3 : hi ≤ 10000) : ∃ v p', Rd b p' ∧ Ev (fun k => spec_l1Rd_near.f k b p lo hi) (v, p') := by
  obtain ⟨v, p', e, v0, v1, hr⟩ := below_some h 8 (by omega)
  unfold spec_l1Rd_near.f
  rw [e]
  simp only [Option.bind_some]
  by_cases c0 : v = 0
  · simp only [c0, if_true]
    exact ⟨_, _, hr, Ev.now _⟩
  simp only [c0, if_false]
  by_cases c1 : v = 1
  · simp only [c1, if_true]
    exact ⟨_, _, hr, Ev.now _⟩
  simp only [c1, if_false]
  have c2 : ¬ hi < lo := by omega
  simp only [c2, if_false]
  obtain ⟨x, p'', hr', hev⟩ := word_l0 8 0 0 p' (by omega) hr
  have hm : ¬ IntKind.u64.wrap (wrap64 (wrap64 (hi - lo) + 1)) = 0 := by
    rw [w64 (x := hi - lo) (by omega) (by omega), w64 (x := hi - lo + 1) (by omega) (by omega)]
    simp only [IntKind.wrap, IntKind.bits, IntKind.signed]
    omega
  refine ⟨wrap64 (lo + wrap64 (Int.tmod (x / 2) (IntKind.u64.wrap (wrap64 (wrap64 (hi - lo) + 1))))), p'', hr', Ev.bind (a := (x, p'')) hev ?_⟩
  simp only [hm, if_false]
  exact Ev.now _
theorem off_ev {b : List Int} {p : Int} (h : Rd b p) (lo hi : Int) (h1 : -10000 ≤ lo) (h2 : lo ≤ hi) (h3 : hi ≤ 10000) : ∃ v p', Rd b p' ∧ Ev (fun k => spec_l1Rd_off.f k b p lo hi) (v, p') := by
  obtain ⟨q, p', e, hr⟩ := once_b h 24 (by omega)
  unfold spec_l1Rd_off.f
  rw [e]
  simp only [Option.bind_some]
  by_cases c : q = true
  · simp only [c, if_true]
    obtain ⟨v, p'', e2, v0, v1, hr2⟩ := below_some hr 4 (by omega)
    rw [e2]
    simp only [Option.bind_some]
    have hv : v < ((([wrap64 (lo - 1), wrap64 (hi + 1), (-9223372036854775808), 9223372036854775807] : List Int)).length : Int) := v1
    simp only [if_pos v0, if_pos hv]
    exact ⟨_, _, hr2, Ev.now _⟩
  · simp only [c, if_false]
    obtain ⟨v, p'', hr2, hev⟩ := near_ev hr lo hi h1 h2 h3
    exact ⟨v, p'', hr2, Ev.bind (a := (v, p'')) hev (Ev.now _)⟩
theorem date_j0 {b : List Int} {p : Int} (h : Rd b p) (y mo d hh mi s : Int) (z : Bool) (zo : Int) : ∃ (r : Int × Int × Int × Int × Int × Int × Bool × Int × Int), Rd b r.2.2.2.2.2.2.2.2 ∧ Ev (fun k => spec_l1Rd_date.j0 k b p y mo d hh mi s z zo) r := by
  obtain ⟨v, p', e, v0, v1, hr⟩ := below_some h 30 (by omega)
  by_cases c1 : v = 29
  · obtain ⟨x, q, hq, hev⟩ := off_ev hr 1 31 (by omega) (by omega) (by omega)
    exact ⟨(y, mo, x, hh, mi, s, z, zo, q), hq, Ev.step (f := fun k => (spec_l1Rd_off.f k b p' 1 31).bind fun bt => some (y, mo, bt.1, hh, mi, s, z, zo, bt.2)) (fun k => by rw [spec_l1Rd_date.j0, e, Option.bind_some, if_pos c1]) (Ev.bind (a := (x, q)) hev (Ev.now _))⟩
  by_cases c2 : v = 28
  · obtain ⟨x, q, hq, hev⟩ := off_ev hr (-840) 840 (by omega) (by omega) (by omega)
    exact ⟨(y, mo, d, hh, mi, s, z, x, q), hq, Ev.step (f := fun k => (spec_l1Rd_off.f k b p' (-840) 840).bind fun bt => some (y, mo, d, hh, mi, s, z, bt.1, bt.2)) (fun k => by rw [spec_l1Rd_date.j0, e, Option.bind_some, if_neg c1, if_pos c2]) (Ev.bind (a := (x, q)) hev (Ev.now _))⟩
  by_cases c3 : v = 27
  · obtain ⟨x, q, hq, hev⟩ := off_ev hr 1 9999 (by omega) (by omega) (by omega)
    exact ⟨(x, mo, d, hh, mi, s, z, zo, q), hq, Ev.step (f := fun k => (spec_l1Rd_off.f k b p' 1 9999).bind fun bt => some (bt.1, mo, d, hh, mi, s, z, zo, bt.2)) (fun k => by rw [spec_l1Rd_date.j0, e, Option.bind_some, if_neg c1, if_neg c2, if_pos c3]) (Ev.bind (a := (x, q)) hev (Ev.now _))⟩
  · exact ⟨(y, mo, d, hh, mi, s, z, zo, p'), hr, Ev.later fun k => by rw [spec_l1Rd_date.j0, e, Option.bind_some, if_neg c1, if_neg c2, if_neg c3]⟩
theorem date_ev {b : List Int} {p : Int} (h : Rd b p) : ∃ (r : Int × Int × Int × Int × Int × Int × Bool × Int × Int), Rd b r.2.2.2.2.2.2.2.2 ∧ Ev (fun k => spec_l1Rd_date.f k b p) r := by
  obtain ⟨v1, p1, e1, a1, b1, r1⟩ := below_some h 7 (by omega)
  obtain ⟨v2, p2, e2, a2, b2, r2⟩ := below_some r1 12 (by omega)
  obtain ⟨v3, p3, e3, a3, b3, r3⟩ := below_some r2 4 (by omega)
  obtain ⟨v4, p4, e4, a4, b4, r4⟩ := below_some r3 3 (by omega)
  obtain ⟨v5, p5, e5, a5, b5, r5⟩ := below_some r4 60 (by omega)
  obtain ⟨v6, p6, e6, a6, b6, r6⟩ := below_some r5 4 (by omega)
  obtain ⟨q7, p7, e7, r7⟩ := once_b r6 2 (by omega)
  have l1 : v1 < (([1, 1999, 2000, 2024, 1900, 9999, 2023] : List Int).length : Int) := b1
  have l3 : v3 < (([0, 23, 12, 5] : List Int).length : Int) := b3
  have l4 : v4 < (([0, 59, 30] : List Int).length : Int) := b4
  unfold spec_l1Rd_date.f
  simp only [Option.bind_some, e1, e2, e3, e4, e5, if_pos a1, if_pos l1, if_pos a3, if_pos l3, if_pos a4, if_pos l4]
  have fin : ∀ t : Int, ∃ (r : Int × Int × Int × Int × Int × Int × Bool × Int × Int), Rd b r.2.2.2.2.2.2.2.2 ∧ Ev (fun k => (spec_l1Rd_below.f b p5 4).bind fun bt186 => (if 0 ≤ bt186.1 then (if bt186.1 < (([1, 2, t, 15] : List Int).length : Int) then ((spec_l1Rd_once.f b bt186.2 2).bind fun bt189 => (if bt189.1 = true then ((spec_l1Rd_below.f b bt189.2 6).bind fun bt194 => (if 0 ≤ bt194.1 then (if bt194.1 < (([0, 60, (-60), 840, (-840), 330] : List Int).length : Int) then (spec_l1Rd_date.j0 k b bt194.2 (rd [1, 1999, 2000, 2024, 1900, 9999, 2023] v1) (wrap64 (1 + v2)) (rd [1, 2, t, 15] bt186.1) (rd [0, 23, 12, 5] v3) (rd [0, 59, 30] v4) v5 true (rd [0, 60, (-60), 840, (-840), 330] bt194.1)) else (none)) else (none))) else (spec_l1Rd_date.j0 k b bt189.2 (rd [1, 1999, 2000, 2024, 1900, 9999, 2023] v1) (wrap64 (1 + v2)) (rd [1, 2, t, 15] bt186.1) (rd [0, 23, 12, 5] v3) (rd [0, 59, 30] v4) v5 false 0))) else (none)) else (none))) r := by
    intro t
    have l6 : v6 < (([1, 2, t, 15] : List Int).length : Int) := b6
    simp only [Option.bind_some, e6, e7, if_pos a6, if_pos l6]
    by_cases c : q7 = true
    · obtain ⟨v8, p8, e8, a8, b8, r8⟩ := below_some r7 6 (by omega)
      have l8 : v8 < (([0, 60, (-60), 840, (-840), 330] : List Int).length : Int) := b8
      simp only [c, if_true, Option.bind_some, e8, if_pos a8, if_pos l8]
      exact date_j0 r8 _ _ _ _ _ _ _ _
    · simp only [c, if_false]
      exact date_j0 r7 _ _ _ _ _ _ _ _
  obtain ⟨r, hr, hev⟩ := fin (dim (rd [1, 1999, 2000, 2024, 1900, 9999, 2023] v1) (wrap64 (1 + v2)))
  exact ⟨r, hr, Ev.bind (spec_DaysIn_ev _ _) hev⟩
end Go.Proofs.Ytdfopjmokbcnlaa.PV
