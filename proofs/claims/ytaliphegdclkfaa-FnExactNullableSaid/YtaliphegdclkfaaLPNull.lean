/- Which nodes may be left out: the program's table holds what the reference's walk answers. -/
import Derived.Test.YtaliphegdclkfaaPLx0
import Derived.Test.YtaliphegdclkfaaPLx5
import Derived.Test.YtaliphegdclkfaaPLx10
import Derived.Test.YtaliphegdclkfaaLPBase
import Derived.Test.YtaliphegdclkfaaLPIn
import Derived.Test.YtaliphegdclkfaaLPNames
import Derived.Test.YtaliphegdclkfaaLPTree
import Derived.Test.YtaliphegdclkfaaLPParts
import Derived.Test.YtaliphegdclkfaaLPPartsI
import Derived.Test.YtaliphegdclkfaaLPCnt
namespace Go.Proofs.Ytaliphegdclkfaa.PL
open Go.RowKit Go.Proofs.YtaliphegdclkfaaW.PrintWords Go.Proofs.YtaliphegdclkfaaW.PrintMore
set_option linter.unusedVariables false
set_option linter.unusedSimpArgs false
theorem CW_length (p : List PNd) : ∀ n, (CW p n).length = n
  | 0 => rfl
  | n + 1 => by rw [CW, List.length_append, CW_length p n]; rfl
theorem CW_at (p : List PNd) (j : Nat) : ∀ n, j < n → rdOf 0 (CW p n) (j : Int) = ((rd_T44 p (j : Int)).f2.map (fun x => rdOf 0 (CW p j) x)).sum + 1 := by
  intro n
  induction n with
  | zero => intro h; omega
  | succ n ih =>
    intro h
    by_cases e : j = n
    · subst e
      rw [CW, rdOf_app_eq _ _ _ _ (CW_length p j).symm]
    · rw [CW, rdOf_app_lt _ _ _ _ (by rw [CW_length]; omega)]
      exact ih (by omega)
theorem NL_at (p : List PNd) (j : Nat) : ∀ n, j < n → rdOf false (NL p n) (j : Int) = nv (NL p j) (rd_T44 p (j : Int)) := by
  intro n
  induction n with
  | zero => intro h; omega
  | succ n ih =>
    intro h
    by_cases e : j = n
    · subst e
      rw [NL, rdOf_app_eq _ _ _ _ (NL_length p j).symm]
    · rw [NL, rdOf_app_lt _ _ _ _ (by rw [NL_length]; omega)]
      exact ih (by omega)
theorem CW_cnt {p : List PNd} (h : Tr p) : ∀ j, j < p.length → ∀ n, j < n → rdOf 0 (CW p n) (j : Int) = cnt p j := by
  intro j
  induction j using Nat.strongRecOn with
  | ind j ih =>
    intro hj n hn
    obtain ⟨f, hf⟩ := h.tr j hj
    rw [CW_at p j n hn, ← cnt_kids hf]
    congr 2
    refine List.map_congr_left fun x hx => ?_
    have hx2 := h.kids2 j hj x hx
    have := ih x.toNat (by omega) (by omega) j (by omega)
    rw [show ((x.toNat : Nat) : Int) = x by omega] at this
    exact this
theorem okB_of {p : List PNd} (h : Tr p) : okB p = true := by
  unfold okB
  rw [Bool.and_eq_true]
  refine ⟨decide_eq_true h.len, List.all_eq_true.mpr fun i hi => ?_⟩
  have hi := List.mem_range.mp hi
  obtain ⟨f, hf⟩ := h.tr i hi
  have hc := CW_cnt h i hi p.length hi
  rw [Bool.and_eq_true, Bool.and_eq_true]
  refine ⟨⟨List.all_eq_true.mpr fun x hx => decide_eq_true (h.kids2 i hi x hx), decide_eq_true ?_⟩, decide_eq_true ?_⟩
  · unfold cw
    rw [hc, ← cnt_kids hf]
    refine Nat.le_of_eq ?_
    congr 2
    refine List.map_congr_left fun x hx => ?_
    have hx2 := h.kids2 i hi x hx
    exact CW_cnt h x.toNat (by omega) p.length (by omega)
  · unfold cw
    rw [hc]
    exact h.cnt_le i hi
theorem nvk_seq {kind : Int} (hk : kind ≠ 3) (nl : List Bool) : ∀ ks b, nvk kind nl ks b = (b && ks.all (fun x => rdOf false nl x)) := by
  intro ks
  induction ks with
  | nil => intro b; simp [nvk]
  | cons y ks ih =>
    intro b
    rw [nvk, if_neg hk, ih, List.all_cons, Bool.and_assoc]
theorem nvk_choice (nl : List Bool) : ∀ ks b, nvk 3 nl ks b = (b || ks.any (fun x => rdOf false nl x)) := by
  intro ks
  induction ks with
  | nil => intro b; simp [nvk]
  | cons y ks ih =>
    intro b
    rw [nvk, if_pos rfl, ih, List.any_cons, Bool.or_assoc]
/-- Whether a node may be left out. -/
def nz (p : List PNd) (j : Nat) : Bool := nv (NL p j) (rd_T44 p (j : Int))
theorem NL_kid {p : List PNd} (h : Tr p) (n : Nat) (hn : n < p.length) (x : Int) (hx : x ∈ (rd_T44 p (n : Int)).f2) : rdOf false (NL p n) x = nz p x.toNat := by
  have hx2 := h.kids2 n hn x hx
  have := NL_at p x.toNat n (by omega)
  rw [show ((x.toNat : Nat) : Int) = x by omega] at this
  unfold nz
  rw [show ((x.toNat : Nat) : Int) = x by omega]
  exact this
theorem any_eq {l : List Int} {f g : Int → Bool} (h : ∀ x ∈ l, f x = g x) : l.any f = l.any g := by
  induction l with
  | nil => rfl
  | cons y l ih => rw [List.any_cons, List.any_cons, h y (List.mem_cons_self ..), ih (fun x hx => h x (List.mem_cons_of_mem _ hx))]
theorem all_eq {l : List Int} {f g : Int → Bool} (h : ∀ x ∈ l, f x = g x) : l.all f = l.all g := by
  induction l with
  | nil => rfl
  | cons y l ih => rw [List.all_cons, List.all_cons, h y (List.mem_cons_self ..), ih (fun x hx => h x (List.mem_cons_of_mem _ hx))]
theorem nz_eq {p : List PNd} (h : Tr p) (n : Nat) (hn : n < p.length) : nz p n = ((if (rd_T44 p (n : Int)).f0 = 3 then (rd_T44 p (n : Int)).f2.any (fun y => nz p y.toNat) else ((rd_T44 p (n : Int)).f0 == 2) && (rd_T44 p (n : Int)).f2.all (fun y => nz p y.toNat)) || ((rd_T44 p (n : Int)).f3 == 1 || (rd_T44 p (n : Int)).f3 == 2)) := by
  have e1 := any_eq (fun x hx => NL_kid h n hn x hx)
  have e2 := all_eq (fun x hx => NL_kid h n hn x hx)
  show nv (NL p n) (rd_T44 p (n : Int)) = _
  unfold nv
  by_cases c : (rd_T44 p (n : Int)).f0 = 3
  · rw [if_pos c, c, nvk_choice, ← e1]
    rfl
  · rw [if_neg c, nvk_seq c, ← e2]
theorem spec_null_ev {p : List PNd} (h : Tr p) : ∀ n, n < p.length → Ev (fun k => spec_l8Null.f k p (n : Int)) (nz p n) := by
  intro n
  induction n using Nat.strongRecOn with
  | ind n ih =>
    intro hn
    have hfan := h.fan2 n hn
    have hK := h.kids2 n hn
    obtain ⟨x, hx⟩ : ∃ x, x = rd_T44 p (n : Int) := ⟨_, rfl⟩
    rw [← hx] at hfan hK
    have seq : ∀ d m, m + d = x.f2.length → Ev (fun k => spec_l8Null.l0 k p (m : Int) x.f0 x.f1 x.f2 x.f3) ((x.f2.drop m).all (fun y => nz p y.toNat)) := by
      intro d
      induction d with
      | zero =>
        intro m hm
        refine Ev.later fun k => ?_
        simp only [spec_l8Null.l0]
        rw [if_neg (cast_nlt (by omega)), List.drop_eq_nil_of_le (by omega)]
        rfl
      | succ d ihd =>
        intro m hm
        have hy := hK _ (rd_mem x.f2 m (by omega))
        have e : ((rd x.f2 (m : Int)).toNat : Int) = rd x.f2 (m : Int) := by omega
        refine Ev.step (f := fun k => (spec_l8Null.f k p (((rd x.f2 (m : Int)).toNat : Nat) : Int)).bind fun t => (if t = true then (spec_l8Null.l0 k p ((m + 1 : Nat) : Int) x.f0 x.f1 x.f2 x.f3) else (some false))) (fun k => ?_) ?_
        · simp only [spec_l8Null.l0]
          rw [if_pos (cast_lt (by omega)), if_pos (by omega), e, wrap_succ (n := x.f2.length) (by omega) (cast_lt (by omega)) (by omega)]
          rfl
        refine Ev.bind (ih _ (by omega) (by omega)) ?_
        rw [list_drop _ _ (by omega), List.all_cons]
        cases nz p (rd x.f2 (m : Int)).toNat with
        | true =>
          simp only [if_true, Bool.true_and]
          exact ihd (m + 1) (by omega)
        | false =>
          simp only [Bool.false_eq_true, if_false, Bool.false_and]
          exact Ev.now _
    have cho : ∀ d m, m + d = x.f2.length → Ev (fun k => spec_l8Null.l1 k p (m : Int) x.f0 x.f1 x.f2 x.f3) ((x.f2.drop m).any (fun y => nz p y.toNat)) := by
      intro d
      induction d with
      | zero =>
        intro m hm
        refine Ev.later fun k => ?_
        simp only [spec_l8Null.l1]
        rw [if_neg (cast_nlt (by omega)), List.drop_eq_nil_of_le (by omega)]
        rfl
      | succ d ihd =>
        intro m hm
        have hy := hK _ (rd_mem x.f2 m (by omega))
        have e : ((rd x.f2 (m : Int)).toNat : Int) = rd x.f2 (m : Int) := by omega
        refine Ev.step (f := fun k => (spec_l8Null.f k p (((rd x.f2 (m : Int)).toNat : Nat) : Int)).bind fun t => (if t = true then (some true) else (spec_l8Null.l1 k p ((m + 1 : Nat) : Int) x.f0 x.f1 x.f2 x.f3))) (fun k => ?_) ?_
        · simp only [spec_l8Null.l1]
          rw [if_pos (cast_lt (by omega)), if_pos (by omega), e, wrap_succ (n := x.f2.length) (by omega) (cast_lt (by omega)) (by omega)]
          rfl
        refine Ev.bind (ih _ (by omega) (by omega)) ?_
        rw [list_drop _ _ (by omega), List.any_cons]
        cases nz p (rd x.f2 (m : Int)).toNat with
        | true =>
          simp only [if_true, Bool.true_or]
          exact Ev.now _
        | false =>
          simp only [Bool.false_eq_true, if_false, Bool.false_or]
          exact ihd (m + 1) (by omega)
    have s0 := seq x.f2.length 0 (by omega)
    have c0 := cho x.f2.length 0 (by omega)
    rw [List.drop_zero] at s0 c0
    have ez := nz_eq h n hn
    rw [← hx] at ez
    have main : ∀ b, b = (x.f3 == 1 || x.f3 == 2) → Ev (fun k => spec_l8Null.j0 k p b x.f0 x.f1 x.f2 x.f3) (nz p n) := by
      intro b hb
      rw [ez, ← hb]
      cases b with
      | true =>
        refine Ev.later fun k => ?_
        simp only [spec_l8Null.j0, if_true, Bool.or_true]
      | false =>
        rw [Bool.or_false]
        by_cases c2 : x.f0 = 2
        · have c3 : ¬ x.f0 = 3 := by omega
          rw [if_neg c3, beq_iff_eq.mpr c2, Bool.true_and]
          refine Ev.step (f := fun k => spec_l8Null.l0 k p ((0 : Nat) : Int) x.f0 x.f1 x.f2 x.f3) (fun k => ?_) s0
          simp only [spec_l8Null.j0, Bool.false_eq_true, if_false, if_pos c2]
          rfl
        · by_cases c3 : x.f0 = 3
          · rw [if_pos c3]
            refine Ev.step (f := fun k => spec_l8Null.l1 k p ((0 : Nat) : Int) x.f0 x.f1 x.f2 x.f3) (fun k => ?_) c0
            simp only [spec_l8Null.j0, Bool.false_eq_true, if_false, if_neg c2, if_pos c3]
            rfl
          · rw [if_neg c3, beq_eq_false_iff_ne.mpr c2, Bool.false_and]
            refine Ev.later fun k => ?_
            simp only [spec_l8Null.j0, Bool.false_eq_true, if_false, if_neg c2, if_neg c3]
    by_cases c1 : x.f3 = 1
    · refine Ev.step (f := fun k => spec_l8Null.j0 k p true x.f0 x.f1 x.f2 x.f3) (fun k => ?_) (main true (by rw [c1]; rfl))
      simp only [spec_l8Null.f]
      rw [if_pos (by omega), if_pos (cast_lt hn), ← hx, if_pos c1]
    · refine Ev.step (f := fun k => spec_l8Null.j0 k p (x.f3 == 2) x.f0 x.f1 x.f2 x.f3) (fun k => ?_) (main (x.f3 == 2) (by rw [beq_eq_false_iff_ne.mpr c1, Bool.false_or]))
      simp only [spec_l8Null.f]
      rw [if_pos (by omega), if_pos (cast_lt hn), ← hx, if_neg c1]
theorem null_both (p : List PNd) (hk : ∀ j : Nat, (rd_T44 p (j : Int)).f2.length ≤ 140737488351232) (hn : ∀ j : Nat, (rd_T44 p (j : Int)).f1.size ≤ 140737488351232) : ∃ b, Ev (fun k => spec_Nullable.f k p) b ∧ Ev (fun k => impl_Nullable.f k p) b := by
  have hb1 := spec_ParticleOk_ev _ hk hn
  have hb2 := impl_ParticleOk_ev _ hk hn
  unfold spec_Nullable.f impl_Nullable.f
  by_cases hp : partOk p
  · rw [Bof_true hp] at hb1 hb2
    have T := Tr.of hp
    have h1 := hp.1
    have h2 := hp.2.1
    have e : wrap64 ((p.length : Int) - 1) = ((p.length - 1 : Nat) : Int) := by rw [w64 (by omega) (by omega)]; omega
    have e2 : (p.length : Int) - 1 = ((p.length - 1 : Nat) : Int) := by omega
    refine ⟨nz p (p.length - 1), Ev.bind hb1 ?_, Ev.bind hb2 ?_⟩
    · simp only [if_true, e]
      exact Ev.bind (spec_null_ev T _ (by omega)) (Ev.now _)
    · simp only [if_true, if_pos (show okB p = true ∧ 0 < p.length from ⟨okB_of T, h1⟩)]
      rw [e2, NL_at p (p.length - 1) p.length (by omega)]
      exact Ev.now _
  · rw [Bof_false hp] at hb1 hb2
    refine ⟨false, Ev.bind hb1 ?_, Ev.bind hb2 ?_⟩
    · simp only [Bool.false_eq_true, if_false]; exact Ev.now _
    · simp only [Bool.false_eq_true, if_false]; exact Ev.now _
end Go.Proofs.Ytaliphegdclkfaa.PL
