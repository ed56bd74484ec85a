/- The program's text of a right model. -/
import Derived.Test.YtaliphegdclkfaaPMx0
import Derived.Test.YtaliphegdclkfaaPMx9
import Derived.Test.YtaliphegdclkfaaMPBase
import Derived.Test.YtaliphegdclkfaaMPIn
import Derived.Test.YtaliphegdclkfaaMPNames
import Derived.Test.YtaliphegdclkfaaMPTree
import Derived.Test.YtaliphegdclkfaaMPParts
import Derived.Test.YtaliphegdclkfaaMPPartsI
import Derived.Test.YtaliphegdclkfaaMPModelText
namespace Go.Proofs.Ytaliphegdclkfaa.PM
open Go.RowKit Go.Proofs.YtaliphegdclkfaaW.PrintWords Go.Proofs.YtaliphegdclkfaaW.PrintMore
set_option linter.unusedVariables false
set_option linter.unusedSimpArgs false
theorem marks_at (o : Int) (h0 : 0 ≤ o) (h3 : o ≤ 3) : rdOf ByteArray.empty ([(⟨#[]⟩ : ByteArray), (⟨#[63]⟩ : ByteArray), (⟨#[42]⟩ : ByteArray), (⟨#[43]⟩ : ByteArray)] : List ByteArray) o = mk (sgn o) := by
  have : o = 0 ∨ o = 1 ∨ o = 2 ∨ o = 3 := by omega
  rcases this with h | h | h | h <;> subst h <;> rfl
theorem map_mk (l : List (List UInt8)) : (l.map mk).map (·.data.toList) = l := by
  rw [List.map_map]
  conv => rhs; rw [← List.map_id l]
  exact List.map_congr_left fun x _ => rfl
theorem join_f (l : List (List UInt8)) (s : UInt8) (h : wt l ≤ 2040) : strings_Join.f (l.map mk) (⟨#[s]⟩ : ByteArray) = some (mk (Lib.join l [s])) := by
  unfold strings_Join.f
  have h1 := wt_length l
  have h2 := join_len s l
  rw [map_mk, show (⟨#[s]⟩ : ByteArray).data.toList = [s] from rfl, if_pos ⟨by rw [List.length_map]; omega, by omega⟩]
  rfl
theorem impl_partText_ev (p : List S44) (h : Rt p) : ∀ n, n < p.length → Ev (fun k => impl_partText.f k p (n : Int)) (mk (tx p n)) := by
  intro n
  induction n using Nat.strongRecOn with
  | ind n ih =>
    intro hn
    have hnode := h.node n (Nat.zero_le _) hn
    have hkl := h.kids hn
    have hsg := sgn_len (rd_T44 p (n : Int)).f3
    have hr := inR_true.mp hnode.1
    have hktl : (kt p n).length = (rd_T44 p (n : Int)).f2.length := by unfold kt; rw [List.length_map]
    by_cases h1 : (rd_T44 p (n : Int)).f0 = 1
    · have hnm := nameOk_size (s := (rd_T44 p (n : Int)).f1) (by rcases hnode.2.1 with h | h | h | h <;> first | exact h.2.1 | omega)
      refine Ev.later fun k => ?_
      simp only [impl_partText.f]
      rw [if_pos (by omega), if_pos (cast_lt hn), if_pos h1]
      simp only [Option.bind_some]
      rw [if_pos hr.1, if_pos (by simp only [List.length_cons, List.length_nil]; omega), marks_at _ hr.1 hr.2, if_pos (by rw [mk_size]; omega), tx_elem h1, ← mk_append, mk_of]
    by_cases h4 : (rd_T44 p (n : Int)).f0 = 4
    · refine Ev.later fun k => ?_
      simp only [impl_partText.f]
      rw [if_pos (by omega), if_pos (cast_lt hn), if_neg h1, if_pos h4]
      simp only [Option.bind_some]
      rw [if_pos hr.1, if_pos (by simp only [List.length_cons, List.length_nil]; omega), marks_at _ hr.1 hr.2, if_pos (by rw [mk_size]; omega), tx_any h4]
      exact congrArg some (mk_append [35] _)
    · have hK := mem_rev hnode
      have h23 : (rd_T44 p (n : Int)).f0 = 2 ∨ (rd_T44 p (n : Int)).f0 = 3 := by rcases hnode.2.1 with h | h | h | h <;> omega
      rw [tx_row h1 h4 hK]
      have hwt := h.wt hn
      have loop : ∀ d m, m + d = (rd_T44 p (n : Int)).f2.length → Ev (fun k => impl_partText.l0 k p (⟨#[sepOf (rd_T44 p (n : Int)).f0]⟩ : ByteArray) (((kt p n).take m).map mk) (rd_T44 p (n : Int)).f2 ((rd_T44 p (n : Int)).f2.length : Int) (m : Int) (rd_T44 p (n : Int)).f0 (rd_T44 p (n : Int)).f1 (rd_T44 p (n : Int)).f2 (rd_T44 p (n : Int)).f3) (mk ((40 :: Lib.join (kt p n) [sepOf (rd_T44 p (n : Int)).f0]) ++ 41 :: sgn (rd_T44 p (n : Int)).f3)) := by
        intro d
        induction d with
        | zero =>
          intro m hm
          have hj := join_len (sepOf (rd_T44 p (n : Int)).f0) (kt p n)
          refine Ev.later fun k => ?_
          simp only [impl_partText.l0]
          rw [if_neg (cast_nlt (by omega)), List.take_of_length_le (by omega), join_f _ _ hwt]
          simp only [Option.bind_some]
          rw [if_pos (by rw [mk_size]; omega), if_pos (by rw [mk_size]; omega), if_pos hr.1, if_pos (by simp only [List.length_cons, List.length_nil]; omega), marks_at _ hr.1 hr.2, if_pos (by rw [mk_size, mk_size]; omega)]
          rw [show (⟨#[41]⟩ : ByteArray) = mk [41] from rfl, show (⟨#[40]⟩ : ByteArray) = mk [40] from rfl, mk_append, mk_append, mk_append]
          simp
        | succ d ihd =>
          intro m hm
          have hm2 : m < (kt p n).length := by omega
          have hx := hK _ (rd_mem (rd_T44 p (n : Int)).f2 m (by omega))
          have e : ((rd (rd_T44 p (n : Int)).f2 (m : Int)).toNat : Int) = rd (rd_T44 p (n : Int)).f2 (m : Int) := by omega
          have hT := ih _ (show (rd (rd_T44 p (n : Int)).f2 (m : Int)).toNat < n by omega) (by omega)
          rw [e] at hT
          have hnext := ihd (m + 1) (by omega)
          rw [List.take_succ_eq_append_getElem hm2, List.map_append, kt_get p n m (by omega) hm2] at hnext
          refine Ev.step (f := fun k => (impl_partText.f k p (rd (rd_T44 p (n : Int)).f2 (m : Int))).bind fun t211 => (if (((kt p n).take m).map mk).length < 8796093022208 then (impl_partText.l0 k p (⟨#[sepOf (rd_T44 p (n : Int)).f0]⟩ : ByteArray) (((kt p n).take m).map mk ++ [t211]) (rd_T44 p (n : Int)).f2 ((rd_T44 p (n : Int)).f2.length : Int) (wrap64 ((m : Int) + 1)) (rd_T44 p (n : Int)).f0 (rd_T44 p (n : Int)).f1 (rd_T44 p (n : Int)).f2 (rd_T44 p (n : Int)).f3) else (none))) (fun k => ?_) ?_
          · simp only [impl_partText.l0]
            rw [if_pos (cast_lt (by omega)), if_pos (by omega), if_pos (cast_lt (by omega))]
          refine Ev.bind hT ?_
          simp only [if_pos (show (((kt p n).take m).map mk).length < 8796093022208 by rw [List.length_map, List.length_take]; omega)]
          rw [wrap_succ (n := (rd_T44 p (n : Int)).f2.length) (by omega) (cast_lt (by omega)) (by omega)]
          exact hnext
      have l := loop (rd_T44 p (n : Int)).f2.length 0 (by omega)
      refine Ev.step (f := fun k => impl_partText.j0 k p (⟨#[sepOf (rd_T44 p (n : Int)).f0]⟩ : ByteArray) [] (rd_T44 p (n : Int)).f0 (rd_T44 p (n : Int)).f1 (rd_T44 p (n : Int)).f2 (rd_T44 p (n : Int)).f3) (fun k => ?_) (Ev.step (fun k => ?_) l)
      · simp only [impl_partText.f]
        rw [if_pos (by omega), if_pos (cast_lt hn), if_neg h1, if_neg h4]
        simp only [Option.bind_some]
        rcases h23 with h2 | h3
        · rw [if_neg (by omega), h2]
          rfl
        · rw [if_pos h3, h3]
          rfl
      · simp only [impl_partText.j0]
        rfl
theorem impl_ModelText_ev (p : List S44) (hk : ∀ j : Nat, (rd_T44 p (j : Int)).f2.length ≤ 140737488351232) (hn : ∀ j : Nat, (rd_T44 p (j : Int)).f1.size ≤ 140737488351232) (hp : partOk p) : Ev (fun k => impl_ModelText.f k p) (mk (tx p (p.length - 1))) := by
  unfold impl_ModelText.f
  have hb := impl_ParticleOk_ev p hk hn
  rw [Bof_true hp] at hb
  refine Ev.bind hb ?_
  simp only [if_true]
  have h1 := hp.1
  have h2 := hp.2.1
  rw [w64 (by omega) (by omega), show ((p.length : Int) - 1) = ((p.length - 1 : Nat) : Int) by omega]
  have := impl_partText_ev p (Rt.of hp) (p.length - 1) (by omega)
  exact Ev.bind this (Ev.now _)
theorem impl_ModelText_no (p : List S44) (hk : ∀ j : Nat, (rd_T44 p (j : Int)).f2.length ≤ 140737488351232) (hn : ∀ j : Nat, (rd_T44 p (j : Int)).f1.size ≤ 140737488351232) (hp : ¬ partOk p) : Ev (fun k => impl_ModelText.f k p) (⟨#[]⟩ : ByteArray) := by
  unfold impl_ModelText.f
  have hb := impl_ParticleOk_ev p hk hn
  rw [Bof_false hp] at hb
  refine Ev.bind hb ?_
  simp only [Bool.false_eq_true, if_false]
  exact Ev.now _
end Go.Proofs.Ytaliphegdclkfaa.PM
