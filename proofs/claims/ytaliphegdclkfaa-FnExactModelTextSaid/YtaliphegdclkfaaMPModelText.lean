/- The text of a right model: plain, and what the reference's and the program's functions come to. -/
import Derived.Test.YtaliphegdclkfaaPMx0
import Derived.Test.YtaliphegdclkfaaPMx5
import Derived.Test.YtaliphegdclkfaaMPBase
import Derived.Test.YtaliphegdclkfaaMPIn
import Derived.Test.YtaliphegdclkfaaMPNames
import Derived.Test.YtaliphegdclkfaaMPTree
import Derived.Test.YtaliphegdclkfaaMPParts
import Derived.Lib.Join
namespace Go.Proofs.Ytaliphegdclkfaa.PM
open Go.RowKit Go.Proofs.YtaliphegdclkfaaW.PrintWords Go.Proofs.YtaliphegdclkfaaW.PrintMore
set_option linter.unusedVariables false
set_option linter.unusedSimpArgs false
def mk (l : List UInt8) : ByteArray := ⟨l.toArray⟩
theorem mk_data (l : List UInt8) : (mk l).data.toList = l := rfl
theorem mk_size (l : List UInt8) : (mk l).size = l.length := by simp [mk, ByteArray.size]
theorem mk_append (a b : List UInt8) : mk a ++ mk b = mk (a ++ b) := by
  apply ByteArray.ext
  simp [mk, ByteArray.data_append]
theorem mk_of (s : ByteArray) : mk s.data.toList = s := by
  apply ByteArray.ext
  simp [mk]
def sgn (o : Int) : List UInt8 := if o = 1 then [63] else if o = 2 then [42] else if o = 3 then [43] else []
theorem sgn_len (o : Int) : (sgn o).length ≤ 1 := by
  unfold sgn
  repeat' split
  all_goals simp
def sepOf (k : Int) : UInt8 := if k = 3 then 124 else 44
/-- The text of a node. -/
def tx (p : List S44) (n : Nat) : List UInt8 :=
  if (rd_T44 p (n : Int)).f0 = 1 then (rd_T44 p (n : Int)).f1.data.toList ++ sgn (rd_T44 p (n : Int)).f3
  else if (rd_T44 p (n : Int)).f0 = 4 then 35 :: sgn (rd_T44 p (n : Int)).f3
  else (40 :: Lib.join ((rd_T44 p (n : Int)).f2.map fun y => if _h : y.toNat < n then tx p y.toNat else []) [sepOf (rd_T44 p (n : Int)).f0]) ++ 41 :: sgn (rd_T44 p (n : Int)).f3
termination_by n
decreasing_by assumption
/-- The texts of a node's own nodes. -/
def kt (p : List S44) (n : Nat) : List (List UInt8) := (rd_T44 p (n : Int)).f2.map fun y => tx p y.toNat
theorem tx_elem {p : List S44} {n : Nat} (h : (rd_T44 p (n : Int)).f0 = 1) : tx p n = (rd_T44 p (n : Int)).f1.data.toList ++ sgn (rd_T44 p (n : Int)).f3 := by
  rw [tx, if_pos h]
theorem tx_any {p : List S44} {n : Nat} (h : (rd_T44 p (n : Int)).f0 = 4) : tx p n = 35 :: sgn (rd_T44 p (n : Int)).f3 := by
  rw [tx, if_neg (by omega), if_pos h]
theorem tx_row {p : List S44} {n : Nat} (h1 : (rd_T44 p (n : Int)).f0 ≠ 1) (h4 : (rd_T44 p (n : Int)).f0 ≠ 4) (hK : ∀ x ∈ (rd_T44 p (n : Int)).f2, 0 ≤ x ∧ x < (n : Int)) : tx p n = (40 :: Lib.join (kt p n) [sepOf (rd_T44 p (n : Int)).f0]) ++ 41 :: sgn (rd_T44 p (n : Int)).f3 := by
  rw [tx, if_neg h1, if_neg h4]
  congr 3
  unfold kt
  apply List.map_congr_left
  intro x hx
  have := hK x hx
  rw [dif_pos (by omega)]
/-- What some texts weigh, each with a sign behind it. -/
def wt : List (List UInt8) → Nat
  | [] => 0
  | x :: l => x.length + 1 + wt l
theorem wt_append (a b : List (List UInt8)) : wt (a ++ b) = wt a + wt b := by
  induction a with
  | nil => simp [wt]
  | cons x a ih => simp only [List.cons_append, wt, ih]; omega
theorem wt_reverse (a : List (List UInt8)) : wt a.reverse = wt a := by
  induction a with
  | nil => rfl
  | cons x a ih => simp only [List.reverse_cons, wt_append, wt, ih]; omega
theorem wt_take (a : List (List UInt8)) (n : Nat) : wt (a.take n) ≤ wt a := by
  have := congrArg wt (List.take_append_drop n a)
  rw [wt_append] at this
  omega
theorem wt_length (a : List (List UInt8)) : a.length ≤ wt a := by
  induction a with
  | nil => simp
  | cons x a ih => simp only [List.length_cons, wt]; omega
theorem joinTail_len (s : UInt8) (a : List (List UInt8)) : (Lib.joinTail [s] a).length ≤ wt a := by
  unfold Lib.joinTail
  induction a with
  | nil => simp [wt]
  | cons x a ih => simp only [List.map_cons, List.flatten_cons, List.length_append, List.length_cons, List.length_nil, wt] at ih ⊢; omega
theorem join_len (s : UInt8) (a : List (List UInt8)) : (Lib.join a [s]).length ≤ wt a := by
  cases a with
  | nil => rw [Lib.join_nil]; simp
  | cons x a =>
    rw [Lib.join_cons, List.length_append]
    have := joinTail_len s a
    simp only [wt]
    omega
theorem join_snoc (s : UInt8) (a : List (List UInt8)) (m : Nat) (h : m < a.length) : Lib.join (a.take (m + 1)) [s] = if m = 0 then a[m] else Lib.join (a.take m) [s] ++ [s] ++ a[m] := by
  cases a with
  | nil => cases h
  | cons x a =>
    cases m with
    | zero => rw [if_pos rfl]; simp [Lib.join_one]
    | succ m =>
      rw [if_neg (by omega)]
      simp only [List.length_cons] at h
      rw [List.take_succ_cons, List.take_succ_cons, Lib.join_cons, Lib.join_cons, Lib.joinTail_take_succ _ _ _ a[m] (List.getElem?_eq_getElem (by omega))]
      simp [List.append_assoc]
theorem ch_wt (p : List S44) (n : Nat) (hF : ∀ m, m < n → ∀ f, tree (kidsR p) m = some f → (tx p m).length + 1 + 51 * f ≤ 51 * (m + 1)) : ∀ ks c f, c ≤ n → ch (tree (kidsR p)) ks c = some f → wt (ks.map fun y => tx p y.toNat) + 51 * f ≤ 51 * c := by
  intro ks
  induction ks with
  | nil => intro c f _ h; simp only [ch, Option.some.injEq] at h; simp only [List.map_nil, wt]; omega
  | cons x ks ih =>
    intro c f hc h
    simp only [ch] at h
    split at h
    · rename_i hx
      obtain ⟨g, hg, h⟩ := Option.bind_eq_some_iff.mp h
      have hle := tree_le _ _ _ hg
      have h1 := hF (c - 1) (by omega) g hg
      have h2 := ih g f (by omega) h
      have e : x.toNat = c - 1 := by omega
      simp only [List.map_cons, wt, e]
      omega
    · cases h
theorem nameOk_size {s : ByteArray} (h : nameOk s = true) : s.size ≤ 40 := by
  unfold nameOk at h
  simp only [Bool.and_eq_true, decide_eq_true_eq] at h
  exact h.2.1
theorem mem_rev {p : List S44} {n : Nat} (h : nodeS p n) : ∀ x ∈ (rd_T44 p (n : Int)).f2, 0 ≤ x ∧ x < (n : Int) := fun x hx => h.2.2 x (by unfold kidsR; exact List.mem_reverse.mpr hx)
theorem kt_wt (p : List S44) (n : Nat) (hF : ∀ m, m < n → ∀ f, tree (kidsR p) m = some f → (tx p m).length + 1 + 51 * f ≤ 51 * (m + 1)) (f : Nat) (h : tree (kidsR p) n = some f) : wt (kt p n) + 51 * f ≤ 51 * n := by
  rw [tree_eq] at h
  have := ch_wt p n hF _ _ _ (Nat.le_refl _) h
  unfold kidsR at this
  rw [List.map_reverse, wt_reverse] at this
  exact this
theorem tx_len (p : List S44) (hN : ∀ j, 0 ≤ j → j < p.length → nodeS p j) : ∀ n, n < p.length → ∀ f, tree (kidsR p) n = some f → (tx p n).length + 1 + 51 * f ≤ 51 * (n + 1) := by
  intro n
  induction n using Nat.strongRecOn with
  | ind n ih =>
    intro hn f hf
    have hle := tree_le _ _ _ hf
    have hnode := hN n (Nat.zero_le _) hn
    have hs := sgn_len (rd_T44 p (n : Int)).f3
    have hw := kt_wt p n (fun m hm => ih m hm (by omega)) f hf
    by_cases h1 : (rd_T44 p (n : Int)).f0 = 1
    · rw [tx_elem h1, List.length_append, data_length]
      have := nameOk_size (s := (rd_T44 p (n : Int)).f1) (by rcases hnode.2.1 with h | h | h | h <;> first | exact h.2.1 | omega)
      omega
    by_cases h4 : (rd_T44 p (n : Int)).f0 = 4
    · rw [tx_any h4, List.length_cons]
      omega
    · rw [tx_row h1 h4 (mem_rev hnode), List.length_append, List.length_cons, List.length_cons]
      have := join_len (sepOf (rd_T44 p (n : Int)).f0) (kt p n)
      omega
theorem spec_sign (o : Int) : spec_l8Sign.f o = some (mk (sgn o)) := by
  unfold spec_l8Sign.f sgn
  repeat' split
  all_goals rfl
theorem kt_get (p : List S44) (n m : Nat) (h : m < (rd_T44 p (n : Int)).f2.length) (h2 : m < (kt p n).length) : (kt p n)[m] = tx p (rd (rd_T44 p (n : Int)).f2 (m : Int)).toNat := by
  rw [show rd (rd_T44 p (n : Int)).f2 (m : Int) = (rd_T44 p (n : Int)).f2[m] from by unfold rd; simp [List.getD_eq_getElem?_getD, h]]
  exact List.getElem_map _
/-- A right model's nodes: what the walks ask. -/
structure Rt (p : List S44) : Prop where
  len : p.length ≤ 40
  node : ∀ j, 0 ≤ j → j < p.length → nodeS p j
  treeAll : ∀ j, j < p.length → ∃ f, tree (kidsR p) j = some f
theorem Rt.of {p : List S44} (h : partOk p) : Rt p := by
  refine ⟨h.2.1, h.2.2.1, fun j hj => ?_⟩
  exact tree_covers _ _ _ h.2.2.2.1 j (Nat.zero_le _) (by omega)
theorem Rt.wt {p : List S44} (h : Rt p) {n : Nat} (hn : n < p.length) : wt (kt p n) ≤ 2040 := by
  obtain ⟨f, hf⟩ := h.treeAll n hn
  have := kt_wt p n (fun m hm => tx_len p h.node m (by omega)) f hf
  have := h.len
  omega
theorem Rt.tx {p : List S44} (h : Rt p) {n : Nat} (hn : n < p.length) : (tx p n).length ≤ 2040 := by
  obtain ⟨f, hf⟩ := h.treeAll n hn
  have := tx_len p h.node n hn f hf
  have := h.len
  omega
theorem Rt.kids {p : List S44} (h : Rt p) {n : Nat} (hn : n < p.length) : (rd_T44 p (n : Int)).f2.length ≤ 2040 := by
  have h1 := wt_length (kt p n)
  have h2 := h.wt hn
  unfold kt at h1
  rw [List.length_map] at h1
  unfold kt at h2
  omega
theorem take_wt (p : List S44) (h : Rt p) {n : Nat} (hn : n < p.length) (s : UInt8) (m : Nat) : (Lib.join ((kt p n).take m) [s]).length ≤ 2040 := by
  have := join_len s ((kt p n).take m)
  have := wt_take (kt p n) m
  have := h.wt hn
  omega
theorem spec_l8Text_ev (p : List S44) (h : Rt p) : ∀ n, n < p.length → Ev (fun k => spec_l8Text.f k p (n : Int)) (mk (tx p n)) := by
  intro n
  induction n using Nat.strongRecOn with
  | ind n ih =>
    intro hn
    have hnode := h.node n (Nat.zero_le _) hn
    have hkl := h.kids hn
    have hsg := sgn_len (rd_T44 p (n : Int)).f3
    have hktl : (kt p n).length = (rd_T44 p (n : Int)).f2.length := by unfold kt; rw [List.length_map]
    by_cases h1 : (rd_T44 p (n : Int)).f0 = 1
    · have hnm := nameOk_size (s := (rd_T44 p (n : Int)).f1) (by rcases hnode.2.1 with h | h | h | h <;> first | exact h.2.1 | omega)
      refine Ev.later fun k => ?_
      simp only [spec_l8Text.f]
      rw [if_pos (by omega), if_pos (cast_lt hn), if_pos h1, spec_sign]
      simp only [Option.bind_some]
      rw [if_pos (by rw [mk_size]; omega), tx_elem h1, ← mk_append, mk_of]
    by_cases h4 : (rd_T44 p (n : Int)).f0 = 4
    · refine Ev.later fun k => ?_
      simp only [spec_l8Text.f]
      rw [if_pos (by omega), if_pos (cast_lt hn), if_neg h1, if_pos h4, spec_sign]
      simp only [Option.bind_some]
      rw [if_pos (by rw [mk_size]; omega), tx_any h4]
      exact congrArg some (mk_append [35] _)
    · have hK := mem_rev hnode
      have h23 : (rd_T44 p (n : Int)).f0 = 2 ∨ (rd_T44 p (n : Int)).f0 = 3 := by rcases hnode.2.1 with h | h | h | h <;> omega
      rw [tx_row h1 h4 hK]
      have loop : ∀ d m, m + d = (rd_T44 p (n : Int)).f2.length → Ev (fun k => spec_l8Text.l0 k p (mk (40 :: Lib.join ((kt p n).take m) [sepOf (rd_T44 p (n : Int)).f0])) (m : Int) (rd_T44 p (n : Int)).f0 (rd_T44 p (n : Int)).f1 (rd_T44 p (n : Int)).f2 (rd_T44 p (n : Int)).f3) (mk ((40 :: Lib.join (kt p n) [sepOf (rd_T44 p (n : Int)).f0]) ++ 41 :: sgn (rd_T44 p (n : Int)).f3)) := by
        intro d
        induction d with
        | zero =>
          intro m hm
          have hj := take_wt p h hn (sepOf (rd_T44 p (n : Int)).f0) m
          refine Ev.later fun k => ?_
          simp only [spec_l8Text.l0]
          rw [if_neg (cast_nlt (by omega)), if_pos (by rw [mk_size, List.length_cons]; omega), spec_sign]
          simp only [Option.bind_some]
          rw [if_pos (by rw [mk_size, mk_size, List.length_cons]; omega), List.take_of_length_le (by omega)]
          rw [show (⟨#[41]⟩ : ByteArray) = mk [41] from rfl, mk_append, mk_append, List.append_assoc]
          rfl
        | succ d ihd =>
          intro m hm
          have hj := take_wt p h hn (sepOf (rd_T44 p (n : Int)).f0) m
          have hm2 : m < (kt p n).length := by omega
          have hx := hK _ (rd_mem (rd_T44 p (n : Int)).f2 m (by omega))
          have e : ((rd (rd_T44 p (n : Int)).f2 (m : Int)).toNat : Int) = rd (rd_T44 p (n : Int)).f2 (m : Int) := by omega
          have hT := ih _ (show (rd (rd_T44 p (n : Int)).f2 (m : Int)).toNat < n by omega) (by omega)
          rw [e] at hT
          have hTl := h.tx (show (rd (rd_T44 p (n : Int)).f2 (m : Int)).toNat < p.length by omega)
          have hnext := ihd (m + 1) (by omega)
          rw [join_snoc _ _ _ hm2, kt_get p n m (by omega) hm2] at hnext
          by_cases hm0 : m = 0
          · subst hm0
            rw [if_pos rfl] at hnext
            refine Ev.step (f := fun k => spec_l8Text.j1 k p (mk (40 :: Lib.join ((kt p n).take 0) [sepOf (rd_T44 p (n : Int)).f0])) ((0 : Nat) : Int) false (rd_T44 p (n : Int)).f0 (rd_T44 p (n : Int)).f1 (rd_T44 p (n : Int)).f2 (rd_T44 p (n : Int)).f3) (fun k => ?_) ?_
            · simp only [spec_l8Text.l0]
              rw [if_pos (cast_lt (by omega)), if_neg (by omega)]
            refine Ev.step (f := fun k => (spec_l8Text.f k p (rd (rd_T44 p (n : Int)).f2 ((0 : Nat) : Int))).bind fun t167 => (if (mk (40 :: Lib.join ((kt p n).take 0) [sepOf (rd_T44 p (n : Int)).f0])).size + t167.size ≤ 9223372036854775807 then (spec_l8Text.l0 k p (mk (40 :: Lib.join ((kt p n).take 0) [sepOf (rd_T44 p (n : Int)).f0]) ++ t167) (wrap64 (((0 : Nat) : Int) + 1)) (rd_T44 p (n : Int)).f0 (rd_T44 p (n : Int)).f1 (rd_T44 p (n : Int)).f2 (rd_T44 p (n : Int)).f3) else (none))) (fun k => ?_) ?_
            · simp only [spec_l8Text.j1, Bool.false_eq_true, if_false]
              rw [if_neg (by omega), if_pos (by omega), if_pos (cast_lt (by omega))]
            refine Ev.bind hT ?_
            simp only [List.take_zero, Lib.join_nil, mk_size, List.length_cons, List.length_nil, if_pos (show 0 + 1 + (tx p (rd (rd_T44 p (n : Int)).f2 ((0 : Nat) : Int)).toNat).length ≤ 9223372036854775807 by omega)]
            rw [mk_append, wrap_succ (n := (rd_T44 p (n : Int)).f2.length) (by omega) (cast_lt (by omega)) (by omega)]
            exact hnext
          · rw [if_neg hm0] at hnext
            have tail : ∀ b : UInt8, b = sepOf (rd_T44 p (n : Int)).f0 → Ev (fun k => (spec_l8Text.f k p (rd (rd_T44 p (n : Int)).f2 (m : Int))).bind fun t163 => (if (mk (40 :: Lib.join ((kt p n).take m) [sepOf (rd_T44 p (n : Int)).f0])).size + 1 + t163.size ≤ 9223372036854775807 then (spec_l8Text.l0 k p ((mk (40 :: Lib.join ((kt p n).take m) [sepOf (rd_T44 p (n : Int)).f0]) ++ (⟨#[b]⟩ : ByteArray)) ++ t163) (wrap64 ((m : Int) + 1)) (rd_T44 p (n : Int)).f0 (rd_T44 p (n : Int)).f1 (rd_T44 p (n : Int)).f2 (rd_T44 p (n : Int)).f3) else (none))) (mk ((40 :: Lib.join (kt p n) [sepOf (rd_T44 p (n : Int)).f0]) ++ 41 :: sgn (rd_T44 p (n : Int)).f3)) := by
              intro b hb
              refine Ev.bind hT ?_
              simp only [mk_size, List.length_cons]
              simp only [if_pos (show (Lib.join ((kt p n).take m) [sepOf (rd_T44 p (n : Int)).f0]).length + 1 + 1 + (tx p (rd (rd_T44 p (n : Int)).f2 (m : Int)).toNat).length ≤ 9223372036854775807 by omega)]
              rw [show (⟨#[b]⟩ : ByteArray) = mk [b] from rfl, mk_append, mk_append, wrap_succ (n := (rd_T44 p (n : Int)).f2.length) (by omega) (cast_lt (by omega)) (by omega), hb]
              simp only [List.cons_append]
              exact hnext
            have hkind : ∀ q : Bool, q = ((rd_T44 p (n : Int)).f0 == 2) → Ev (fun k => spec_l8Text.j1 k p (mk (40 :: Lib.join ((kt p n).take m) [sepOf (rd_T44 p (n : Int)).f0])) (m : Int) q (rd_T44 p (n : Int)).f0 (rd_T44 p (n : Int)).f1 (rd_T44 p (n : Int)).f2 (rd_T44 p (n : Int)).f3) (mk ((40 :: Lib.join (kt p n) [sepOf (rd_T44 p (n : Int)).f0]) ++ 41 :: sgn (rd_T44 p (n : Int)).f3)) := by
              intro q hq
              rcases h23 with h2 | h3
              · rw [h2] at hq
                subst hq
                refine Ev.step (fun k => ?_) (tail 44 (by rw [h2]; rfl))
                simp only [spec_l8Text.j1]
                rw [if_pos (by decide), if_pos (by rw [mk_size, List.length_cons]; omega), if_pos (by omega), if_pos (cast_lt (by omega))]
              · rw [h3] at hq
                subst hq
                refine Ev.step (fun k => ?_) (tail 124 (by rw [h3]; rfl))
                simp only [spec_l8Text.j1]
                rw [if_neg (by decide), if_pos (by omega), if_pos (by rw [mk_size, List.length_cons]; omega), if_pos (by omega), if_pos (cast_lt (by omega))]
            refine Ev.step (fun k => ?_) (hkind _ rfl)
            simp only [spec_l8Text.l0]
            rw [if_pos (cast_lt (by omega)), if_pos (by omega)]
      refine Ev.step (fun k => ?_) (loop (rd_T44 p (n : Int)).f2.length 0 (by omega))
      simp only [spec_l8Text.f]
      rw [if_pos (by omega), if_pos (cast_lt hn), if_neg h1, if_neg h4, List.take_zero, Lib.join_nil]
      rfl
theorem spec_ModelText_ev (p : List S44) (hk : ∀ j : Nat, (rd_T44 p (j : Int)).f2.length ≤ 140737488351232) (hn : ∀ j : Nat, (rd_T44 p (j : Int)).f1.size ≤ 140737488351232) (hp : partOk p) : Ev (fun k => spec_ModelText.f k p) (mk (tx p (p.length - 1))) := by
  unfold spec_ModelText.f
  have hb := spec_ParticleOk_ev p hk hn
  rw [Bof_true hp] at hb
  refine Ev.bind hb ?_
  simp only [if_true]
  have h1 := hp.1
  have h2 := hp.2.1
  rw [w64 (by omega) (by omega), show ((p.length : Int) - 1) = ((p.length - 1 : Nat) : Int) by omega]
  have := spec_l8Text_ev p (Rt.of hp) (p.length - 1) (by omega)
  exact Ev.bind this (Ev.now _)
theorem spec_ModelText_no (p : List S44) (hk : ∀ j : Nat, (rd_T44 p (j : Int)).f2.length ≤ 140737488351232) (hn : ∀ j : Nat, (rd_T44 p (j : Int)).f1.size ≤ 140737488351232) (hp : ¬ partOk p) : Ev (fun k => spec_ModelText.f k p) (⟨#[]⟩ : ByteArray) := by
  unfold spec_ModelText.f
  have hb := spec_ParticleOk_ev p hk hn
  rw [Bof_false hp] at hb
  refine Ev.bind hb ?_
  simp only [Bool.false_eq_true, if_false]
  exact Ev.now _
end Go.Proofs.Ytaliphegdclkfaa.PM
