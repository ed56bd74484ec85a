/- One of the shortest rows that a node takes: plain, and what the reference's and the program's functions come to. -/
import Derived.Test.YtaliphegdclkfaaPQx0
import Derived.Test.YtaliphegdclkfaaPQx5
import Derived.Test.YtaliphegdclkfaaPQx9
import Derived.Test.YtaliphegdclkfaaQPBase
import Derived.Test.YtaliphegdclkfaaQPIn
import Derived.Test.YtaliphegdclkfaaQPNames
import Derived.Test.YtaliphegdclkfaaQPTree
import Derived.Test.YtaliphegdclkfaaQPParts
namespace Go.Proofs.Ytaliphegdclkfaa.PQ
open Go.RowKit Go.Proofs.YtaliphegdclkfaaW.PrintWords Go.Proofs.YtaliphegdclkfaaW.PrintMore
set_option linter.unusedVariables false
set_option linter.unusedSimpArgs false
/-- The first shortest of some rows, one of them at hand. -/
def pick : List ByteArray → List (List ByteArray) → List ByteArray
  | a, [] => a
  | a, b :: l => pick (if b.length < a.length then b else a) l
/-- The row of a node. -/
def sm (p : List S44) (n : Nat) : List ByteArray :=
  if (rd_T44 p (n : Int)).f3 = 1 ∨ (rd_T44 p (n : Int)).f3 = 2 then []
  else if (rd_T44 p (n : Int)).f0 = 1 then [(rd_T44 p (n : Int)).f1]
  else if (rd_T44 p (n : Int)).f0 = 4 then [(⟨#[97, 110, 121]⟩ : ByteArray)]
  else if (rd_T44 p (n : Int)).f0 = 2 then ((rd_T44 p (n : Int)).f2.map fun y => if _h : y.toNat < n then sm p y.toNat else []).flatten
  else match (rd_T44 p (n : Int)).f2.map fun y => if _h : y.toNat < n then sm p y.toNat else [] with
    | [] => []
    | a :: l => pick a l
termination_by n
decreasing_by all_goals assumption
def ks (p : List S44) (n : Nat) : List (List ByteArray) := (rd_T44 p (n : Int)).f2.map fun y => sm p y.toNat
theorem ks_eq {p : List S44} {n : Nat} (hK : ∀ x ∈ (rd_T44 p (n : Int)).f2, 0 ≤ x ∧ x < (n : Int)) : ((rd_T44 p (n : Int)).f2.map fun y => if _h : y.toNat < n then sm p y.toNat else []) = ks p n := by
  unfold ks
  apply List.map_congr_left
  intro x hx
  have := hK x hx
  rw [dif_pos (by omega)]
theorem sm_opt {p : List S44} {n : Nat} (h : (rd_T44 p (n : Int)).f3 = 1 ∨ (rd_T44 p (n : Int)).f3 = 2) : sm p n = [] := by rw [sm, if_pos h]
theorem sm_elem {p : List S44} {n : Nat} (h : ¬ ((rd_T44 p (n : Int)).f3 = 1 ∨ (rd_T44 p (n : Int)).f3 = 2)) (h1 : (rd_T44 p (n : Int)).f0 = 1) : sm p n = [(rd_T44 p (n : Int)).f1] := by rw [sm, if_neg h, if_pos h1]
theorem sm_any {p : List S44} {n : Nat} (h : ¬ ((rd_T44 p (n : Int)).f3 = 1 ∨ (rd_T44 p (n : Int)).f3 = 2)) (h1 : (rd_T44 p (n : Int)).f0 = 4) : sm p n = [(⟨#[97, 110, 121]⟩ : ByteArray)] := by rw [sm, if_neg h, if_neg (by omega), if_pos h1]
theorem sm_seq {p : List S44} {n : Nat} (h : ¬ ((rd_T44 p (n : Int)).f3 = 1 ∨ (rd_T44 p (n : Int)).f3 = 2)) (h1 : (rd_T44 p (n : Int)).f0 = 2) (hK : ∀ x ∈ (rd_T44 p (n : Int)).f2, 0 ≤ x ∧ x < (n : Int)) : sm p n = (ks p n).flatten := by rw [sm, if_neg h, if_neg (by omega), if_neg (by omega), if_pos h1, ks_eq hK]
theorem sm_alt {p : List S44} {n : Nat} (h : ¬ ((rd_T44 p (n : Int)).f3 = 1 ∨ (rd_T44 p (n : Int)).f3 = 2)) (h1 : (rd_T44 p (n : Int)).f0 = 3) (hK : ∀ x ∈ (rd_T44 p (n : Int)).f2, 0 ≤ x ∧ x < (n : Int)) {a : List ByteArray} {l : List (List ByteArray)} (hl : ks p n = a :: l) : sm p n = pick a l := by
  rw [sm, if_neg h, if_neg (by omega), if_neg (by omega), if_neg (by omega), ks_eq hK, hl]
theorem pick_len : ∀ (l : List (List ByteArray)) (a : List ByteArray), (pick a l).length ≤ a.length
  | [], a => Nat.le_refl _
  | b :: l, a => by
    have := pick_len l (if b.length < a.length then b else a)
    rw [pick]
    split at this
    · rw [if_pos ‹_›]; omega
    · rw [if_neg ‹_›]; omega
def ws : List (List ByteArray) → Nat
  | [] => 0
  | x :: l => x.length + ws l
theorem ws_flatten (l : List (List ByteArray)) : l.flatten.length = ws l := by
  induction l with
  | nil => rfl
  | cons x l ih => rw [List.flatten_cons, List.length_append, ih]; rfl
theorem ws_append (a b : List (List ByteArray)) : ws (a ++ b) = ws a + ws b := by
  induction a with
  | nil => simp [ws]
  | cons x a ih => simp only [List.cons_append, ws, ih]; omega
theorem ws_reverse (a : List (List ByteArray)) : ws a.reverse = ws a := by
  induction a with
  | nil => rfl
  | cons x a ih => simp only [List.reverse_cons, ws_append, ws, ih]; omega
theorem ws_take (a : List (List ByteArray)) (n : Nat) : ws (a.take n) ≤ ws a := by
  have := congrArg ws (List.take_append_drop n a)
  rw [ws_append] at this
  omega
theorem ch_ws (p : List S44) (n : Nat) (hF : ∀ m, m < n → ∀ f, tree (kidsR p) m = some f → (sm p m).length + f ≤ m + 1) : ∀ ks c f, c ≤ n → ch (tree (kidsR p)) ks c = some f → ws (ks.map fun y => sm p y.toNat) + f ≤ c := by
  intro ks
  induction ks with
  | nil => intro c f _ h; simp only [ch, Option.some.injEq] at h; simp only [List.map_nil, ws]; omega
  | cons x ks ih =>
    intro c f hc h
    simp only [ch] at h
    split at h
    · rename_i hx
      obtain ⟨g, hg, h⟩ := Option.bind_eq_some_iff.mp h
      have hle := tree_le _ _ _ hg
      have h1 := hF (c - 1) (by omega) g hg
      have h2 := ih g f (by omega) h
      have e : x.toNat = c - 1 := by omega
      simp only [List.map_cons, ws, e]
      omega
    · cases h
theorem ks_ws (p : List S44) (n : Nat) (hF : ∀ m, m < n → ∀ f, tree (kidsR p) m = some f → (sm p m).length + f ≤ m + 1) (f : Nat) (h : tree (kidsR p) n = some f) : ws (ks p n) + f ≤ n := by
  rw [tree_eq] at h
  have := ch_ws p n hF _ _ _ (Nat.le_refl _) h
  unfold kidsR at this
  rw [List.map_reverse, ws_reverse] at this
  exact this
theorem kidsS {p : List S44} {n : Nat} (h : nodeS p n) : ∀ x ∈ (rd_T44 p (n : Int)).f2, 0 ≤ x ∧ x < (n : Int) := fun x hx => h.2.2 x (by unfold kidsR; exact List.mem_reverse.mpr hx)
theorem sm_len (p : List S44) (hN : ∀ j, 0 ≤ j → j < p.length → nodeS p j) : ∀ n, n < p.length → ∀ f, tree (kidsR p) n = some f → (sm p n).length + f ≤ n + 1 := by
  intro n
  induction n using Nat.strongRecOn with
  | ind n ih =>
    intro hn f hf
    have hle := tree_le _ _ _ hf
    have hnode := hN n (Nat.zero_le _) hn
    have hw := ks_ws p n (fun m hm => ih m hm (by omega)) f hf
    by_cases ho : (rd_T44 p (n : Int)).f3 = 1 ∨ (rd_T44 p (n : Int)).f3 = 2
    · rw [sm_opt ho]; simp only [List.length_nil]; omega
    by_cases h1 : (rd_T44 p (n : Int)).f0 = 1
    · rw [sm_elem ho h1]; simp only [List.length_cons, List.length_nil]; omega
    by_cases h4 : (rd_T44 p (n : Int)).f0 = 4
    · rw [sm_any ho h4]; simp only [List.length_cons, List.length_nil]; omega
    by_cases h2 : (rd_T44 p (n : Int)).f0 = 2
    · rw [sm_seq ho h2 (kidsS hnode), ws_flatten]; omega
    · have h3 : (rd_T44 p (n : Int)).f0 = 3 ∧ 2 ≤ (rd_T44 p (n : Int)).f2.length := by rcases hnode.2.1 with h | h | h | h <;> first | omega | exact ⟨h.1, h.2.2⟩
      cases hk : ks p n with
      | nil => have := congrArg List.length hk; unfold ks at this; rw [List.length_map, List.length_nil] at this; omega
      | cons a l =>
        rw [sm_alt ho h3.1 (kidsS hnode) hk]
        have := pick_len l a
        rw [hk] at hw
        simp only [ws] at hw
        omega
structure Rs (p : List S44) : Prop where
  len : p.length ≤ 40
  node : ∀ j, 0 ≤ j → j < p.length → nodeS p j
  treeAll : ∀ j, j < p.length → ∃ f, tree (kidsR p) j = some f
theorem Rs.of {p : List S44} (h : partOk p) : Rs p := by
  refine ⟨h.2.1, h.2.2.1, fun j hj => ?_⟩
  exact tree_covers _ _ _ h.2.2.2.1 j (Nat.zero_le _) (by omega)
theorem Rs.ws {p : List S44} (h : Rs p) {n : Nat} (hn : n < p.length) : ws (ks p n) ≤ 40 := by
  obtain ⟨f, hf⟩ := h.treeAll n hn
  have := ks_ws p n (fun m hm => sm_len p h.node m (by omega)) f hf
  have := h.len
  omega
theorem Rs.sm {p : List S44} (h : Rs p) {n : Nat} (hn : n < p.length) : (sm p n).length ≤ 41 := by
  obtain ⟨f, hf⟩ := h.treeAll n hn
  have := sm_len p h.node n hn f hf
  have := h.len
  omega
theorem ks_get (p : List S44) (n m : Nat) (h : m < (rd_T44 p (n : Int)).f2.length) (h2 : m < (ks p n).length) : (ks p n)[m] = sm p (rd (rd_T44 p (n : Int)).f2 (m : Int)).toNat := by
  rw [show rd (rd_T44 p (n : Int)).f2 (m : Int) = (rd_T44 p (n : Int)).f2[m] from by unfold rd; simp [List.getD_eq_getElem?_getD, h]]
  exact List.getElem_map _
theorem take_flat (l : List (List ByteArray)) (m : Nat) (h : m < l.length) : (l.take (m + 1)).flatten = (l.take m).flatten ++ l[m] := by
  rw [List.take_succ_eq_append_getElem h, List.flatten_append]
  simp
/-- The first shortest of the first m rows, m at least 1. -/
def best (l : List (List ByteArray)) (m : Nat) : List ByteArray := match l.take m with
  | [] => []
  | a :: r => pick a r
theorem pick_snoc : ∀ (l : List (List ByteArray)) (a b : List ByteArray), pick a (l ++ [b]) = if b.length < (pick a l).length then b else pick a l
  | [], a, b => rfl
  | c :: l, a, b => by
    rw [List.cons_append, pick, pick]
    exact pick_snoc l _ b
theorem best_one (l : List (List ByteArray)) (h : 0 < l.length) : best l 1 = l[0] := by
  cases l with
  | nil => cases h
  | cons a l => rfl
theorem best_succ (l : List (List ByteArray)) (m : Nat) (hm : 1 ≤ m) (h : m < l.length) : best l (m + 1) = if l[m].length < (best l m).length then l[m] else best l m := by
  unfold best
  rw [List.take_succ_eq_append_getElem h]
  cases hl : l.take m with
  | nil => have := congrArg List.length hl; rw [List.length_take, List.length_nil] at this; omega
  | cons a r =>
    rw [List.cons_append]
    exact pick_snoc r a _
theorem best_all {l : List (List ByteArray)} {a : List ByteArray} {r : List (List ByteArray)} (h : l = a :: r) : best l l.length = pick a r := by
  unfold best
  rw [List.take_of_length_le (Nat.le_refl _), h]
theorem spec_short_ev (p : List S44) (h : Rs p) (hkk : ∀ j : Nat, (rd_T44 p (j : Int)).f2.length ≤ 140737488351232) : ∀ n, n < p.length → Ev (fun k => spec_l8Short.f k p (n : Int)) (sm p n) := by
  intro n
  induction n using Nat.strongRecOn with
  | ind n ih =>
    intro hn
    have hnode := h.node n (Nat.zero_le _) hn
    have hK := kidsS hnode
    have hkl := hkk n
    have hws := h.ws hn
    have hksl : (ks p n).length = (rd_T44 p (n : Int)).f2.length := by unfold ks; rw [List.length_map]
    have hcall : ∀ m, m < (rd_T44 p (n : Int)).f2.length → ∀ h2 : m < (ks p n).length, Ev (fun k => spec_l8Short.f k p (rd (rd_T44 p (n : Int)).f2 (m : Int))) (ks p n)[m] := by
      intro m hm h2
      have hx := hK _ (rd_mem (rd_T44 p (n : Int)).f2 m hm)
      rw [ks_get p n m hm h2]
      have := ih _ (show (rd (rd_T44 p (n : Int)).f2 (m : Int)).toNat < n by omega) (by omega)
      rwa [show ((rd (rd_T44 p (n : Int)).f2 (m : Int)).toNat : Int) = rd (rd_T44 p (n : Int)).f2 (m : Int) by omega] at this
    have start : ∀ b : Bool, (b = true ↔ ((rd_T44 p (n : Int)).f3 = 1 ∨ (rd_T44 p (n : Int)).f3 = 2)) → Ev (fun k => spec_l8Short.j0 k p b (rd_T44 p (n : Int)).f0 (rd_T44 p (n : Int)).f1 (rd_T44 p (n : Int)).f2 (rd_T44 p (n : Int)).f3) (sm p n) := by
      intro b hb
      cases b with
      | true =>
        rw [sm_opt (hb.mp rfl)]
        exact Ev.later fun k => by simp only [spec_l8Short.j0, if_true]
      | false =>
        have ho : ¬ ((rd_T44 p (n : Int)).f3 = 1 ∨ (rd_T44 p (n : Int)).f3 = 2) := fun hh => by cases hb.mpr hh
        by_cases h1 : (rd_T44 p (n : Int)).f0 = 1
        · rw [sm_elem ho h1]
          exact Ev.later fun k => by simp only [spec_l8Short.j0, Bool.false_eq_true, if_false]; rw [if_pos h1]
        by_cases h4 : (rd_T44 p (n : Int)).f0 = 4
        · rw [sm_any ho h4]
          exact Ev.later fun k => by simp only [spec_l8Short.j0, Bool.false_eq_true, if_false]; rw [if_neg h1, if_pos h4]
        by_cases h2 : (rd_T44 p (n : Int)).f0 = 2
        · rw [sm_seq ho h2 hK]
          have loop : ∀ d m, m + d = (rd_T44 p (n : Int)).f2.length → Ev (fun k => spec_l8Short.l0 k p ((ks p n).take m).flatten (m : Int) (rd_T44 p (n : Int)).f0 (rd_T44 p (n : Int)).f1 (rd_T44 p (n : Int)).f2 (rd_T44 p (n : Int)).f3) (ks p n).flatten := by
            intro d
            induction d with
            | zero =>
              intro m hm
              refine Ev.later fun k => ?_
              simp only [spec_l8Short.l0]
              rw [if_neg (cast_nlt (by omega)), List.take_of_length_le (by omega)]
            | succ d ihd =>
              intro m hm
              have hm2 : m < (ks p n).length := by omega
              have hnext := ihd (m + 1) (by omega)
              rw [take_flat _ _ hm2] at hnext
              refine Ev.step (f := fun k => (spec_l8Short.f k p (rd (rd_T44 p (n : Int)).f2 (m : Int))).bind fun t172 => if ((ks p n).take m).flatten.length + t172.length < 8796093022208 then (spec_l8Short.l0 k p (((ks p n).take m).flatten ++ t172) ((m + 1 : Nat) : Int) (rd_T44 p (n : Int)).f0 (rd_T44 p (n : Int)).f1 (rd_T44 p (n : Int)).f2 (rd_T44 p (n : Int)).f3) else none) (fun k => ?_) ?_
              · simp only [spec_l8Short.l0]
                rw [if_pos (cast_lt (by omega)), if_pos (by omega), wrap_succ (n := (rd_T44 p (n : Int)).f2.length) (by omega) (cast_lt (by omega)) (by omega)]
                simp only [if_pos h2]
                rfl
              refine Ev.bind (hcall m (by omega) hm2) ?_
              have hl1 := ws_flatten ((ks p n).take m)
              have hl2 := ws_take (ks p n) m
              have hl3 := ws_take (ks p n) (m + 1)
              have hl4 := ws_flatten ((ks p n).take (m + 1))
              rw [take_flat _ _ hm2, List.length_append] at hl4
              simp only [if_pos (show ((ks p n).take m).flatten.length + (ks p n)[m].length < 8796093022208 by omega)]
              exact hnext
          have l := loop (rd_T44 p (n : Int)).f2.length 0 (by omega)
          refine Ev.step (fun k => ?_) l
          simp only [spec_l8Short.j0, Bool.false_eq_true, if_false]
          rw [if_neg h1, if_neg h4]
          rfl
        · have h3 : (rd_T44 p (n : Int)).f0 = 3 ∧ 2 ≤ (rd_T44 p (n : Int)).f2.length := by rcases hnode.2.1 with h | h | h | h <;> first | omega | exact ⟨h.1, h.2.2⟩
          obtain ⟨a, l, hk⟩ : ∃ a l, ks p n = a :: l := by
            cases hk : ks p n with
            | nil => rw [hk, List.length_nil] at hksl; omega
            | cons a l => exact ⟨a, l, rfl⟩
          rw [sm_alt ho h3.1 hK hk, ← best_all hk]
          have loop : ∀ d m, 1 ≤ m → m + d = (rd_T44 p (n : Int)).f2.length → Ev (fun k => spec_l8Short.l0 k p (best (ks p n) m) (m : Int) (rd_T44 p (n : Int)).f0 (rd_T44 p (n : Int)).f1 (rd_T44 p (n : Int)).f2 (rd_T44 p (n : Int)).f3) (best (ks p n) (ks p n).length) := by
            intro d
            induction d with
            | zero =>
              intro m hm1 hm
              refine Ev.later fun k => ?_
              simp only [spec_l8Short.l0]
              rw [if_neg (cast_nlt (by omega)), show m = (ks p n).length by omega]
            | succ d ihd =>
              intro m hm1 hm
              have hm2 : m < (ks p n).length := by omega
              have hnext := ihd (m + 1) (by omega) (by omega)
              rw [best_succ _ _ hm1 hm2] at hnext
              refine Ev.step (f := fun k => (spec_l8Short.f k p (rd (rd_T44 p (n : Int)).f2 (m : Int))).bind fun t172 => if (t172.length : Int) < ((best (ks p n) m).length : Int) then (spec_l8Short.l0 k p t172 ((m + 1 : Nat) : Int) (rd_T44 p (n : Int)).f0 (rd_T44 p (n : Int)).f1 (rd_T44 p (n : Int)).f2 (rd_T44 p (n : Int)).f3) else (spec_l8Short.l0 k p (best (ks p n) m) ((m + 1 : Nat) : Int) (rd_T44 p (n : Int)).f0 (rd_T44 p (n : Int)).f1 (rd_T44 p (n : Int)).f2 (rd_T44 p (n : Int)).f3)) (fun k => ?_) ?_
              · simp only [spec_l8Short.l0]
                rw [if_pos (cast_lt (by omega)), if_pos (by omega), wrap_succ (n := (rd_T44 p (n : Int)).f2.length) (by omega) (cast_lt (by omega)) (by omega)]
                simp only [if_neg h2, if_neg (show ¬ (m : Int) = 0 by omega)]
                rfl
              refine Ev.bind (hcall m (by omega) hm2) ?_
              by_cases hc : (ks p n)[m].length < (best (ks p n) m).length
              · rw [if_pos hc] at hnext
                simp only [if_pos (show ((ks p n)[m].length : Int) < ((best (ks p n) m).length : Int) by omega)]
                exact hnext
              · rw [if_neg hc] at hnext
                simp only [if_neg (show ¬ ((ks p n)[m].length : Int) < ((best (ks p n) m).length : Int) by omega)]
                exact hnext
          have l1 := loop ((rd_T44 p (n : Int)).f2.length - 1) 1 (by omega) (by omega)
          rw [best_one _ (by omega)] at l1
          refine Ev.step (f := fun k => spec_l8Short.l0 k p [] 0 (rd_T44 p (n : Int)).f0 (rd_T44 p (n : Int)).f1 (rd_T44 p (n : Int)).f2 (rd_T44 p (n : Int)).f3) (fun k => ?_) ?_
          · simp only [spec_l8Short.j0, Bool.false_eq_true, if_false]
            rw [if_neg h1, if_neg h4]
          refine Ev.step (f := fun k => (spec_l8Short.f k p (rd (rd_T44 p (n : Int)).f2 ((0 : Nat) : Int))).bind fun t172 => spec_l8Short.l0 k p t172 ((1 : Nat) : Int) (rd_T44 p (n : Int)).f0 (rd_T44 p (n : Int)).f1 (rd_T44 p (n : Int)).f2 (rd_T44 p (n : Int)).f3) (fun k => ?_) ?_
          · simp only [spec_l8Short.l0]
            rw [if_pos (by omega), if_pos (by omega)]
            simp only [if_neg h2, if_true]
            rw [w64 (x := 0 + 1) (by omega) (by omega)]
            rfl
          exact Ev.bind (hcall 0 (by omega) (by omega)) l1
    by_cases e1 : (rd_T44 p (n : Int)).f3 = 1
    · refine Ev.step (fun k => ?_) (start true ⟨fun _ => .inl e1, fun _ => rfl⟩)
      simp only [spec_l8Short.f]
      rw [if_pos (by omega), if_pos (cast_lt hn), if_pos e1]
    · refine Ev.step (fun k => ?_) (start ((rd_T44 p (n : Int)).f3 == 2) ⟨fun hh => .inr (by simpa using hh), fun hh => by rcases hh with hh | hh; exact absurd hh e1; simp [hh]⟩)
      simp only [spec_l8Short.f]
      rw [if_pos (by omega), if_pos (cast_lt hn), if_neg e1]
theorem rd_drop1 (l : List Int) (i : Nat) : rd (l.drop 1) (i : Int) = rd l ((i + 1 : Nat) : Int) := by
  unfold rd
  simp only [Int.toNat_natCast, List.getD_eq_getElem?_getD, List.getElem?_drop]
  rw [Nat.add_comm 1 i]
theorem impl_sample_ev (p : List S44) (h : Rs p) (hkk : ∀ j : Nat, (rd_T44 p (j : Int)).f2.length ≤ 140737488351232) : ∀ n, n < p.length → Ev (fun k => impl_sample.f k p (n : Int)) (sm p n) := by
  intro n
  induction n using Nat.strongRecOn with
  | ind n ih =>
    intro hn
    have hnode := h.node n (Nat.zero_le _) hn
    have hK := kidsS hnode
    have hkl := hkk n
    have hws := h.ws hn
    have hksl : (ks p n).length = (rd_T44 p (n : Int)).f2.length := by unfold ks; rw [List.length_map]
    have hcall : ∀ m, m < (rd_T44 p (n : Int)).f2.length → ∀ h2 : m < (ks p n).length, Ev (fun k => impl_sample.f k p (rd (rd_T44 p (n : Int)).f2 (m : Int))) (ks p n)[m] := by
      intro m hm h2
      have hx := hK _ (rd_mem (rd_T44 p (n : Int)).f2 m hm)
      rw [ks_get p n m hm h2]
      have := ih _ (show (rd (rd_T44 p (n : Int)).f2 (m : Int)).toNat < n by omega) (by omega)
      rwa [show ((rd (rd_T44 p (n : Int)).f2 (m : Int)).toNat : Int) = rd (rd_T44 p (n : Int)).f2 (m : Int) by omega] at this
    by_cases ho : (rd_T44 p (n : Int)).f3 = 1 ∨ (rd_T44 p (n : Int)).f3 = 2
    · rw [sm_opt ho]
      refine Ev.later fun k => ?_
      simp only [impl_sample.f, impl_PNode_isOptional.f]
      rw [if_pos (by omega), if_pos (cast_lt hn)]
      simp only [Option.bind_some]
      rcases ho with ho | ho
      · rw [if_pos ho]; simp
      · rw [if_neg (by omega), ho]; simp
    have hopt : impl_PNode_isOptional.f (rd_T44 p (n : Int)).f0 (rd_T44 p (n : Int)).f1 (rd_T44 p (n : Int)).f2 (rd_T44 p (n : Int)).f3 = some false := by
      unfold impl_PNode_isOptional.f
      rw [if_neg (fun e => ho (.inl e))]
      have : ((rd_T44 p (n : Int)).f3 == 2) = false := by simpa using fun e => ho (.inr e)
      rw [this]
    by_cases h1 : (rd_T44 p (n : Int)).f0 = 1
    · rw [sm_elem ho h1]
      refine Ev.later fun k => ?_
      simp only [impl_sample.f]
      rw [if_pos (by omega), if_pos (cast_lt hn), hopt]
      simp only [Option.bind_some, Bool.false_eq_true, if_false]
      rw [if_pos h1, if_pos (by simp)]
      rfl
    by_cases h4 : (rd_T44 p (n : Int)).f0 = 4
    · rw [sm_any ho h4]
      refine Ev.later fun k => ?_
      simp only [impl_sample.f]
      rw [if_pos (by omega), if_pos (cast_lt hn), hopt]
      simp only [Option.bind_some, Bool.false_eq_true, if_false]
      rw [if_neg h1, if_pos h4, if_pos (by simp)]
      rfl
    by_cases h2 : (rd_T44 p (n : Int)).f0 = 2
    · rw [sm_seq ho h2 hK]
      have loop : ∀ d m, m + d = (rd_T44 p (n : Int)).f2.length → Ev (fun k => impl_sample.l0 k p ((ks p n).take m).flatten (rd_T44 p (n : Int)).f2 ((rd_T44 p (n : Int)).f2.length : Int) (m : Int)) (ks p n).flatten := by
        intro d
        induction d with
        | zero =>
          intro m hm
          refine Ev.later fun k => ?_
          simp only [impl_sample.l0]
          rw [if_neg (cast_nlt (by omega)), List.take_of_length_le (by omega)]
        | succ d ihd =>
          intro m hm
          have hm2 : m < (ks p n).length := by omega
          have hnext := ihd (m + 1) (by omega)
          rw [take_flat _ _ hm2] at hnext
          refine Ev.step (f := fun k => (impl_sample.f k p (rd (rd_T44 p (n : Int)).f2 (m : Int))).bind fun t223 => if ((ks p n).take m).flatten.length + t223.length < 8796093022208 then (impl_sample.l0 k p (((ks p n).take m).flatten ++ t223) (rd_T44 p (n : Int)).f2 ((rd_T44 p (n : Int)).f2.length : Int) ((m + 1 : Nat) : Int)) else none) (fun k => ?_) ?_
          · simp only [impl_sample.l0]
            rw [if_pos (cast_lt (by omega)), if_pos (by omega), if_pos (cast_lt (by omega)), wrap_succ (n := (rd_T44 p (n : Int)).f2.length) (by omega) (cast_lt (by omega)) (by omega)]
            rfl
          refine Ev.bind (hcall m (by omega) hm2) ?_
          have hl1 := ws_flatten ((ks p n).take m)
          have hl2 := ws_take (ks p n) m
          have hl3 := ws_take (ks p n) (m + 1)
          have hl4 := ws_flatten ((ks p n).take (m + 1))
          rw [take_flat _ _ hm2, List.length_append] at hl4
          simp only [if_pos (show ((ks p n).take m).flatten.length + (ks p n)[m].length < 8796093022208 by omega)]
          exact hnext
      have l := loop (rd_T44 p (n : Int)).f2.length 0 (by omega)
      refine Ev.step (fun k => ?_) l
      simp only [impl_sample.f]
      rw [if_pos (by omega), if_pos (cast_lt hn), hopt]
      simp only [Option.bind_some, Bool.false_eq_true, if_false]
      rw [if_neg h1, if_neg h4, if_pos h2]
      rfl
    · have h3 : (rd_T44 p (n : Int)).f0 = 3 ∧ 2 ≤ (rd_T44 p (n : Int)).f2.length := by rcases hnode.2.1 with h | h | h | h <;> first | omega | exact ⟨h.1, h.2.2⟩
      obtain ⟨a, l, hk⟩ : ∃ a l, ks p n = a :: l := by
        cases hk : ks p n with
        | nil => rw [hk, List.length_nil] at hksl; omega
        | cons a l => exact ⟨a, l, rfl⟩
      rw [sm_alt ho h3.1 hK hk, ← best_all hk]
      have hdl : ((rd_T44 p (n : Int)).f2.drop 1).length = (rd_T44 p (n : Int)).f2.length - 1 := List.length_drop
      have loop : ∀ d m, 1 ≤ m → m + d = (rd_T44 p (n : Int)).f2.length → Ev (fun k => impl_sample.l1 k p (best (ks p n) m) ((rd_T44 p (n : Int)).f2.drop 1) (((rd_T44 p (n : Int)).f2.drop 1).length : Int) ((m - 1 : Nat) : Int)) (best (ks p n) (ks p n).length) := by
        intro d
        induction d with
        | zero =>
          intro m hm1 hm
          refine Ev.later fun k => ?_
          simp only [impl_sample.l1]
          rw [if_neg (by omega), show m = (ks p n).length by omega]
        | succ d ihd =>
          intro m hm1 hm
          have hm2 : m < (ks p n).length := by omega
          have hnext := ihd (m + 1) (by omega) (by omega)
          rw [best_succ _ _ hm1 hm2, show m + 1 - 1 = (m - 1) + 1 by omega] at hnext
          have hrd := rd_drop1 (rd_T44 p (n : Int)).f2 (m - 1)
          rw [show m - 1 + 1 = m by omega] at hrd
          refine Ev.step (f := fun k => (impl_sample.f k p (rd (rd_T44 p (n : Int)).f2 (m : Int))).bind fun t235 => if (t235.length : Int) < ((best (ks p n) m).length : Int) then (impl_sample.l1 k p t235 ((rd_T44 p (n : Int)).f2.drop 1) (((rd_T44 p (n : Int)).f2.drop 1).length : Int) (((m - 1) + 1 : Nat) : Int)) else (impl_sample.l1 k p (best (ks p n) m) ((rd_T44 p (n : Int)).f2.drop 1) (((rd_T44 p (n : Int)).f2.drop 1).length : Int) (((m - 1) + 1 : Nat) : Int))) (fun k => ?_) ?_
          · simp only [impl_sample.l1]
            rw [if_pos (by omega), if_pos (by omega), if_pos (by omega), hrd, wrap_succ (n := (rd_T44 p (n : Int)).f2.length) (by omega) (by omega) (by omega)]
            rfl
          refine Ev.bind (hcall m (by omega) hm2) ?_
          by_cases hc : (ks p n)[m].length < (best (ks p n) m).length
          · rw [if_pos hc] at hnext
            simp only [if_pos (show ((ks p n)[m].length : Int) < ((best (ks p n) m).length : Int) by omega)]
            exact hnext
          · rw [if_neg hc] at hnext
            simp only [if_neg (show ¬ ((ks p n)[m].length : Int) < ((best (ks p n) m).length : Int) by omega)]
            exact hnext
      have l1 := loop ((rd_T44 p (n : Int)).f2.length - 1) 1 (by omega) (by omega)
      rw [best_one _ (by omega)] at l1
      refine Ev.step (f := fun k => (impl_sample.f k p (rd (rd_T44 p (n : Int)).f2 ((0 : Nat) : Int))).bind fun t230 => impl_sample.l1 k p t230 ((rd_T44 p (n : Int)).f2.drop 1) (((rd_T44 p (n : Int)).f2.drop 1).length : Int) ((1 - 1 : Nat) : Int)) (fun k => ?_) ?_
      · simp only [impl_sample.f]
        rw [if_pos (by omega), if_pos (cast_lt hn), hopt]
        simp only [Option.bind_some, Bool.false_eq_true, if_false]
        rw [if_neg h1, if_neg h4, if_neg h2, if_pos (by omega)]
        simp only [if_pos (show (1 : Int) ≤ ((rd_T44 p (n : Int)).f2.length : Int) by omega)]
        rfl
      exact Ev.bind (hcall 0 (by omega) (by omega)) l1
end Go.Proofs.Ytaliphegdclkfaa.PQ
