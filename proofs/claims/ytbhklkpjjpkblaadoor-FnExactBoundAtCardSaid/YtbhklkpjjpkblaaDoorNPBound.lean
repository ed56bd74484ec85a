/- What a prefix is bound to: the reference's way up and the program's come to the same. -/
import Derived.Test.YtbhklkpjjpkblaaDoorPNx0
import Derived.Test.YtbhklkpjjpkblaaDoorPNx7
import Derived.Test.YtbhklkpjjpkblaaDoorPNx14
import Derived.Test.YtbhklkpjjpkblaaDoorNPBase
import Derived.Test.YtbhklkpjjpkblaaDoorNPIn
import Derived.Test.YtbhklkpjjpkblaaDoorNPBytes
import Derived.Test.YtbhklkpjjpkblaaDoorNPItems
import Derived.Test.YtbhklkpjjpkblaaDoorNPGood
import Derived.Test.YtbhklkpjjpkblaaDoorNPDoc
import Derived.Test.YtbhklkpjjpkblaaDoorNPDocUp
namespace Go.Proofs.YtbhklkpjjpkblaaDoor.PN
open Go.RowKit Go.Proofs.YtbhklkpjjpkblaaDoorW.PrintWords Go.Proofs.YtbhklkpjjpkblaaDoorW.PrintMore
set_option linter.unusedVariables false
set_option linter.unusedSimpArgs false
section
variable (L : List S74) (p nm : ByteArray)
def atEnd (p : ByteArray) : ByteArray × Bool := ((⟨#[]⟩ : ByteArray), (p.toList == ([] : List UInt8)))
theorem bound_l1 (hL : L.length ≤ 200) (n : Nat) (hn : n < L.length) (ha : (rd_T74 L (n : Int)).f3.length ≤ 1048576) (r : ByteArray × Bool) (hs : Ev (fun k => spec_l3Bound.l0 k L p nm (rd_T74 L (n : Int)).f0) r) (hi : Ev (fun k => impl_bound.l0 k L (rd_T74 L (n : Int)).f0 p nm) r) :
    ∀ d m, m + d = (rd_T74 L (n : Int)).f3.length → ∃ r, Ev (fun k => spec_l3Bound.l1 k L p nm (n : Int) (m : Int)) r ∧ Ev (fun k => impl_bound.l1 k L (n : Int) p nm (rd_T74 L (n : Int)).f3 ((rd_T74 L (n : Int)).f3.length : Int) (m : Int)) r := by
  intro d
  induction d with
  | zero =>
    intro m hm
    refine ⟨r, Ev.step (fun k => ?_) hs, Ev.step (fun k => ?_) hi⟩
    · simp only [spec_l3Bound.l1]
      rw [if_pos (by omega), if_pos (cast_lt hn), if_neg (cast_nlt (by omega))]
    · simp only [impl_bound.l1]
      rw [if_neg (cast_nlt (by omega)), if_pos (by omega), if_pos (cast_lt hn)]
  | succ d ih =>
    intro m hm
    have hm2 : m < (rd_T74 L (n : Int)).f3.length := by omega
    by_cases c : (rd_T76 (rd_T74 L (n : Int)).f3 (m : Int)).f0.toList = nm.toList
    · by_cases v : (rd_T76 (rd_T74 L (n : Int)).f3 (m : Int)).f1.toList = []
      · refine ⟨((rd_T76 (rd_T74 L (n : Int)).f3 (m : Int)).f1, (p.toList == ([] : List UInt8))), Ev.later fun k => ?_, Ev.later fun k => ?_⟩
        · simp only [spec_l3Bound.l1]
          rw [if_pos (by omega), if_pos (cast_lt hn), if_pos (cast_lt hm2), if_pos (by omega), if_pos c, if_pos v]
        · simp only [impl_bound.l1]
          rw [if_pos (cast_lt hm2), if_pos (by omega), if_pos (cast_lt hm2), if_pos c, v]
          by_cases q : p.toList = []
          · rw [if_pos q, q]; rfl
          · rw [if_neg q, beq_eq_false_iff_ne.mpr q]; rfl
      · refine ⟨((rd_T76 (rd_T74 L (n : Int)).f3 (m : Int)).f1, true), Ev.later fun k => ?_, Ev.later fun k => ?_⟩
        · simp only [spec_l3Bound.l1]
          rw [if_pos (by omega), if_pos (cast_lt hn), if_pos (cast_lt hm2), if_pos (by omega), if_pos c, if_neg v]
        · simp only [impl_bound.l1]
          rw [if_pos (cast_lt hm2), if_pos (by omega), if_pos (cast_lt hm2), if_pos c]
          by_cases q : p.toList = []
          · rw [if_pos q]
          · rw [if_neg q, bne_iff_ne.mpr v]
    · obtain ⟨r2, h1, h2⟩ := ih (m + 1) (by omega)
      refine ⟨r2, Ev.step (fun k => ?_) h1, Ev.step (fun k => ?_) h2⟩
      · simp only [spec_l3Bound.l1]
        rw [if_pos (by omega), if_pos (cast_lt hn), if_pos (cast_lt hm2), if_pos (by omega), if_neg c, wrap_succ (n := (rd_T74 L (n : Int)).f3.length) (by omega) (cast_lt hm2) (by omega)]
        rfl
      · simp only [impl_bound.l1]
        rw [if_pos (cast_lt hm2), if_pos (by omega), if_pos (cast_lt hm2), if_neg c, wrap_succ (n := (rd_T74 L (n : Int)).f3.length) (by omega) (cast_lt hm2) (by omega)]
        rfl
theorem bound_l0 (hL : L.length ≤ 200) (hx : ∀ x ∈ L, smallI x) (hup : ∀ j, j < L.length → -1 ≤ (rd_T74 L (j : Int)).f0 ∧ (rd_T74 L (j : Int)).f0 < (j : Int)) : ∀ n, n < L.length → ∃ r, Ev (fun k => spec_l3Bound.l0 k L p nm (n : Int)) r ∧ Ev (fun k => impl_bound.l0 k L (n : Int) p nm) r := by
  intro n
  induction n using Nat.strongRecOn with
  | ind n ih =>
    intro hn
    have hu := hup n hn
    have rest : ∃ r, Ev (fun k => spec_l3Bound.l0 k L p nm (rd_T74 L (n : Int)).f0) r ∧ Ev (fun k => impl_bound.l0 k L (rd_T74 L (n : Int)).f0 p nm) r := by
      by_cases c : 0 ≤ (rd_T74 L (n : Int)).f0
      · obtain ⟨m, hm⟩ := Int.eq_ofNat_of_zero_le c
        rw [hm]
        exact ih m (by omega) (by omega)
      · have e : (rd_T74 L (n : Int)).f0 = -1 := by omega
        rw [e]
        refine ⟨atEnd p, Ev.later fun k => ?_, Ev.later fun k => ?_⟩
        · simp only [spec_l3Bound.l0]
          rw [if_neg (by omega)]
          rfl
        · simp only [impl_bound.l0]
          rw [if_neg (by omega)]
          rfl
    obtain ⟨r, h1, h2⟩ := rest
    have ha : (rd_T74 L (n : Int)).f3.length ≤ 1048576 := by
      rw [getII L n hn]
      exact (hx _ (List.getElem_mem _)).2.2.1
    obtain ⟨r2, g1, g2⟩ := bound_l1 L p nm hL n hn ha r h1 h2 (rd_T74 L (n : Int)).f3.length 0 (by omega)
    refine ⟨r2, Ev.step (fun k => ?_) g1, Ev.step (fun k => ?_) g2⟩
    · simp only [spec_l3Bound.l0]
      rw [if_pos (by omega)]
      rfl
    · simp only [impl_bound.l0]
      rw [if_pos (by omega), if_pos (by omega), if_pos (cast_lt hn)]
      rfl
theorem name_eq : (⟨#[120, 109, 108, 110, 115, 58]⟩ : ByteArray) ++ p = (⟨#[120, 109, 108, 110, 115]⟩ : ByteArray) ++ ((⟨#[58]⟩ : ByteArray) ++ p) := by
  apply bytes_ext
  rw [append_list, append_list, append_list]
  rfl
theorem bound_f (hp : p.size ≤ 140737488351232) (hL : L.length ≤ 200) (hx : ∀ x ∈ L, smallI x) (hup : ∀ j, j < L.length → -1 ≤ (rd_T74 L (j : Int)).f0 ∧ (rd_T74 L (j : Int)).f0 < (j : Int)) (n : Nat) (hn : n < L.length) : ∃ r, Ev (fun k => spec_l3Bound.f k L (n : Int) p) r ∧ Ev (fun k => impl_bound.f k L (n : Int) p) r := by
  unfold spec_l3Bound.f impl_bound.f
  by_cases c : p.toList = ([120, 109, 108] : List UInt8)
  · simp only [c, if_true]
    exact ⟨_, Ev.now _, Ev.now _⟩
  simp only [c, if_false]
  by_cases d : p.toList = []
  · simp only [d, if_true]
    obtain ⟨r, h1, h2⟩ := bound_l0 L p (⟨#[120, 109, 108, 110, 115]⟩ : ByteArray) hL hx hup n hn
    exact ⟨r, Ev.step (fun k => by simp only [spec_l3Bound.j0]) h1, Ev.step (fun k => by simp only [impl_bound.j0]) h2⟩
  · simp only [d, if_false]
    obtain ⟨r, h1, h2⟩ := bound_l0 L p ((⟨#[120, 109, 108, 110, 115, 58]⟩ : ByteArray) ++ p) hL hx hup n hn
    have q1 : 6 + p.size ≤ 9223372036854775807 := by omega
    have q2 : 1 + p.size ≤ 9223372036854775807 := by omega
    have q3 : 5 + (1 + p.size) ≤ 9223372036854775807 := by omega
    simp only [q1, q2, q3, if_true, ← name_eq]
    exact ⟨r, Ev.step (fun k => by simp only [spec_l3Bound.j0]) h1, Ev.step (fun k => by simp only [impl_bound.j0]) h2⟩
end
end Go.Proofs.YtbhklkpjjpkblaaDoor.PN
