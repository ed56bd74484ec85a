/- The laws' own small functions on one pattern node: how much it weighs, the copy, the comparison. -/
import Derived.Test.YtomfhenoblfckaaPKx0
import Derived.Test.YtomfhenoblfckaaPKx1
import Derived.Test.YtomfhenoblfckaaPKx3
import Derived.Test.YtomfhenoblfckaaPKx4
import Derived.Test.YtomfhenoblfckaaPKx5
import Derived.Test.YtomfhenoblfckaaKPBase
import Derived.Test.YtomfhenoblfckaaKPIn
namespace Go.Proofs.Ytomfhenoblfckaa.PK
open Go.RowKit Go.Proofs.YtomfhenoblfckaaW.PrintWords Go.Proofs.YtomfhenoblfckaaW.PrintMore
set_option linter.unusedVariables false
set_option linter.unusedSimpArgs false
def cvR (x : S82) : S68 := ⟨x.f0, x.f1⟩
def cvX (x : S36) : S41 := ⟨x.f0, x.f1, x.f2.map cvR, x.f3, x.f4, x.f5, x.f6⟩
def smallX (x : S36) : Prop := x.f2.length ≤ 1048576
theorem szRNode_at (x : S36) (a : Int) (h0 : 0 ≤ a) (h1 : a ≤ 1048576) (hl : x.f2.length ≤ 140737488351232) : ∃ t, laws_szRNode.f x.f0 x.f1 x.f2 x.f3 x.f4 x.f5 x.f6 a = some t ∧ (0 ≤ t → t ≤ a ∧ smallX x) := by
  unfold laws_szRNode.f laws_szRangeS.f smallX
  rw [w64 (x := a - (x.f2.length : Int)) (by omega) (by omega)]
  by_cases c : a - (x.f2.length : Int) < 0
  · exact ⟨-1, by rw [if_pos c]; rfl, by omega⟩
  · refine ⟨a - (x.f2.length : Int), ?_, fun _ => ⟨by omega, by omega⟩⟩
    rw [if_neg c]
    simp only [Option.bind_some]
    rw [if_neg c]
theorem toRangeS_l0_ev (l : List S82) (hl : l.length ≤ 1048576) : ∀ (d n : Nat) (r : List S68), n + d = l.length → r.length = d → Ev (fun k => laws_toRangeS.l0 k l ((l.take n).map cvR ++ r) (n : Int)) (l.map cvR) := by
  intro d
  induction d with
  | zero =>
    intro n r hn hr
    refine Ev.later fun k => ?_
    simp only [laws_toRangeS.l0]
    rw [if_neg (cast_nlt (by omega))]
    have : r = [] := List.eq_nil_of_length_eq_zero hr
    subst this
    rw [List.append_nil, List.take_of_length_le (by omega)]
  | succ d ih =>
    intro n r hn hr
    have hn2 : n < l.length := by omega
    have e : rd_T82 l (n : Int) = l[n] := by unfold rd_T82; simp [List.getD_eq_getElem?_getD, hn2]
    have hlen : ((l.take n).map cvR ++ r).length = l.length := by rw [List.length_append, List.length_map, List.length_take]; omega
    have hsub := ih (n + 1) r.tail (by omega) (by rw [List.length_tail]; omega)
    rw [List.take_succ_eq_append_getElem hn2, List.map_append] at hsub
    refine Ev.step (fun k => ?_) hsub
    simp only [laws_toRangeS.l0]
    rw [if_pos (cast_lt hn2), if_pos (by omega), e, hlen, wrap_succ (n := l.length) (by omega) (cast_lt hn2) (by omega)]
    simp only [if_pos (cast_lt hn2), Int.toNat_natCast, laws_toRange.f, Option.bind_some]
    rw [set_next ((l.take n).map cvR) r n _ z68 (by rw [List.length_map, List.length_take]; omega) (by omega)]
    rfl
theorem toRangeS_ev (l : List S82) (hl : l.length ≤ 1048576) : Ev (fun k => laws_toRangeS.f k l) (l.map cvR) := by
  unfold laws_toRangeS.f
  simp only [show ((0 : Int) ≤ (l.length : Int)) = True from eq_true (by omega), if_true, Int.toNat_natCast, show (l.length ≤ 17592186044416) = True from eq_true (by omega)]
  have := toRangeS_l0_ev l hl l.length 0 (List.replicate l.length z68) (by omega) (by simp)
  simpa using this
theorem toRNode_ev (x : S36) (h : x.f2.length ≤ 1048576) : Ev (fun k => laws_toRNode.f k x.f0 x.f1 x.f2 x.f3 x.f4 x.f5 x.f6) (x.f0, x.f1, x.f2.map cvR, x.f3, x.f4, x.f5, x.f6) := by
  unfold laws_toRNode.f
  exact Ev.bind (toRangeS_ev x.f2 h) (Ev.now _)
theorem eqRangeS_self (l : List S68) (hl : l.length ≤ 1048576) : Ev (fun k => laws_eqRangeS.f k l l) true := by
  have main : ∀ d n, n + d = l.length → Ev (fun k => laws_eqRangeS.l0 k l l (n : Int)) true := by
    intro d
    induction d with
    | zero =>
      intro n hn
      refine Ev.later fun k => ?_
      simp only [laws_eqRangeS.l0]
      rw [if_neg (cast_nlt (by omega))]
    | succ d ih =>
      intro n hn
      have hn2 : n < l.length := by omega
      refine Ev.step (fun k => ?_) (ih (n + 1) (by omega))
      simp only [laws_eqRangeS.l0, laws_eqRange.f]
      rw [if_pos (cast_lt hn2), if_pos (by omega), if_pos (cast_lt hn2), wrap_succ (n := l.length) (by omega) (cast_lt hn2) (by omega)]
      simp
  unfold laws_eqRangeS.f
  simp only [if_true]
  exact main l.length 0 (by omega)
end Go.Proofs.Ytomfhenoblfckaa.PK
