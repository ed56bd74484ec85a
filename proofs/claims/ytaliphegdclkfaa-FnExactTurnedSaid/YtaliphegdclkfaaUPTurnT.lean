/- A list of particles turned round: what the reference's walk and the program's lay down. -/
import Derived.Test.YtaliphegdclkfaaPUx0
import Derived.Test.YtaliphegdclkfaaPUx5
import Derived.Test.YtaliphegdclkfaaPUx9
import Derived.Test.YtaliphegdclkfaaUPBase
import Derived.Test.YtaliphegdclkfaaUPIn
import Derived.Test.YtaliphegdclkfaaUPNames
import Derived.Test.YtaliphegdclkfaaUPTree
import Derived.Test.YtaliphegdclkfaaUPParts
import Derived.Test.YtaliphegdclkfaaUPPartsI
import Derived.Test.YtaliphegdclkfaaUPTurnMarks
namespace Go.Proofs.Ytaliphegdclkfaa.PU
open Go.RowKit Go.Proofs.YtaliphegdclkfaaW.PrintWords Go.Proofs.YtaliphegdclkfaaW.PrintMore
set_option linter.unusedVariables false
set_option linter.unusedSimpArgs false
theorem getD_some (f : Nat) : (some f).getD 0 = f := rfl
theorem ch_sum {F : Nat → Option Nat} (hle : ∀ j f, F j = some f → f ≤ j) : ∀ ks c f, ch F ks c = some f → (ks.map (fun x => x.toNat + 1 - (F x.toNat).getD 0)).sum + f = c ∧ ∀ x ∈ ks, ∃ g, F x.toNat = some g := by
  intro ks
  induction ks with
  | nil =>
    intro c f h
    simp only [ch, Option.some.injEq] at h
    exact ⟨by simp [h], fun x hx => by cases hx⟩
  | cons y ks ih =>
    intro c f h
    simp only [ch] at h
    split at h
    · rename_i hy
      obtain ⟨g, hg, h⟩ := Option.bind_eq_some_iff.mp h
      obtain ⟨h1, h2⟩ := ih g f h
      have := hle _ _ hg
      have e : y.toNat = c - 1 := by omega
      refine ⟨?_, fun x hx => ?_⟩
      · rw [List.map_cons, List.sum_cons, e, hg, getD_some]
        omega
      · rcases List.mem_cons.mp hx with rfl | hx
        · exact ⟨g, by rw [e]; exact hg⟩
        · exact h2 x hx
    · cases h
/-- How many nodes a node has, with itself. -/
def cnt (p : List PNd) (n : Nat) : Nat := n + 1 - (tree (kidsR p) n).getD 0
theorem sum_perm_rev (l : List Nat) : l.reverse.sum = l.sum := by
  induction l with
  | nil => rfl
  | cons x l ih => rw [List.reverse_cons, List.sum_append, ih]; simp; omega
/-- The kids in the order in which they are turned. -/
def ksT (p : List PNd) (n : Nat) : List Int := if (rd_T44 p (n : Int)).f0 = 2 then (rd_T44 p (n : Int)).f2.reverse else (rd_T44 p (n : Int)).f2
theorem ksT_length (p : List PNd) (n : Nat) : (ksT p n).length = (rd_T44 p (n : Int)).f2.length := by
  unfold ksT; split <;> simp
theorem ksT_mem {p : List PNd} {n : Nat} {x : Int} (h : x ∈ ksT p n) : x ∈ kidsR p n := by
  unfold ksT at h; unfold kidsR
  split at h
  · exact h
  · exact List.mem_reverse.mpr h
theorem ksT_sum (p : List PNd) (n : Nat) (g : Int → Nat) : ((ksT p n).map g).sum = ((kidsR p n).map g).sum := by
  unfold ksT kidsR
  split
  · rfl
  · rw [List.map_reverse, sum_perm_rev]
theorem cnt_kids {p : List PNd} {n f : Nat} (h : tree (kidsR p) n = some f) : ((ksT p n).map (fun x => cnt p x.toNat)).sum + 1 = cnt p n ∧ ∀ x ∈ ksT p n, ∃ g, tree (kidsR p) x.toNat = some g := by
  have h0 := h
  rw [tree_eq] at h
  obtain ⟨h1, h2⟩ := ch_sum (tree_le (kidsR p)) _ _ _ h
  refine ⟨?_, fun x hx => h2 x (ksT_mem hx)⟩
  rw [ksT_sum]
  have e : cnt p n = n + 1 - f := by unfold cnt; rw [h0, getD_some]
  rw [e]
  have : ((kidsR p n).map (fun x => cnt p x.toNat)).sum + f = n := h1
  omega
theorem cnt_pos {p : List PNd} {n f : Nat} (h : tree (kidsR p) n = some f) : 1 ≤ cnt p n := by have := (cnt_kids h).1; omega
/-- The kids' nodes laid down one behind the other, and where each kid stands. -/
def gt (F : Nat → List PNd → List PNd) : List Int → List PNd → List Int → List PNd × List Int
  | [], o, a => (o, a)
  | y :: ks, o, a => gt F ks (F y.toNat o) (a ++ [((F y.toNat o).length : Int) - 1])
theorem gt_congr {F G : Nat → List PNd → List PNd} : ∀ (ks : List Int) (o : List PNd) (a : List Int), (∀ x ∈ ks, ∀ o, F x.toNat o = G x.toNat o) → gt F ks o a = gt G ks o a := by
  intro ks
  induction ks with
  | nil => intro o a _; rfl
  | cons y ks ih =>
    intro o a h
    simp only [gt]
    rw [h y (List.mem_cons_self ..)]
    exact ih _ _ (fun x hx => h x (List.mem_cons_of_mem _ hx))
def mkN (x : PNd) (a : List Int) : PNd := ⟨x.f0, x.f1, a, x.f3⟩
def tn (p : List PNd) (n : Nat) (o : List PNd) : List PNd :=
  let q := gt (fun j o => if _h : j < n then tn p j o else o) (ksT p n) o []
  q.1 ++ [mkN (rd_T44 p (n : Int)) q.2]
termination_by n
decreasing_by assumption
theorem tn_eq {p : List PNd} {n : Nat} (hK : ∀ x ∈ kidsR p n, 0 ≤ x ∧ x < (n : Int)) (o : List PNd) : tn p n o = (gt (tn p) (ksT p n) o []).1 ++ [mkN (rd_T44 p (n : Int)) (gt (tn p) (ksT p n) o []).2] := by
  rw [tn]
  have e : gt (fun j o => if _h : j < n then tn p j o else o) (ksT p n) o [] = gt (tn p) (ksT p n) o [] := by
    refine gt_congr _ _ _ (fun x hx o => ?_)
    have := hK x (ksT_mem hx)
    rw [dif_pos (by omega)]
  simp only [e]
theorem gt_length {F : Nat → List PNd → List PNd} {c : Nat → Nat} : ∀ (ks : List Int) (o : List PNd) (a : List Int), (∀ x ∈ ks, ∀ o, (F x.toNat o).length = o.length + c x.toNat) → (gt F ks o a).1.length = o.length + (ks.map (fun x => c x.toNat)).sum ∧ (gt F ks o a).2.length = a.length + ks.length := by
  intro ks
  induction ks with
  | nil => intro o a _; simp [gt]
  | cons y ks ih =>
    intro o a h
    have hy := h y (List.mem_cons_self ..) o
    obtain ⟨h1, h2⟩ := ih (F y.toNat o) (a ++ [((F y.toNat o).length : Int) - 1]) (fun x hx => h x (List.mem_cons_of_mem _ hx))
    simp only [gt]
    rw [h1, h2, hy, List.length_append, List.map_cons, List.sum_cons, List.length_cons, List.length_cons, List.length_nil]
    constructor <;> omega
/-- A list of particles that is a tree. -/
structure Tr (p : List PNd) : Prop where
  len : p.length ≤ 40
  kids : ∀ n, n < p.length → ∀ x ∈ kidsR p n, 0 ≤ x ∧ x < (n : Int)
  tr : ∀ n, n < p.length → ∃ f, tree (kidsR p) n = some f
theorem Tr.of {p : List PNd} (h : partOk p) : Tr p := by
  refine ⟨h.2.1, fun n hn => (h.2.2.1 n (Nat.zero_le _) hn).2.2, fun n hn => ?_⟩
  exact tree_covers _ _ _ h.2.2.2.1 n (Nat.zero_le _) (by omega)
theorem Tr.length {p : List PNd} (h : Tr p) : ∀ n, n < p.length → ∀ o, (tn p n o).length = o.length + cnt p n := by
  intro n
  induction n using Nat.strongRecOn with
  | ind n ih =>
    intro hn o
    obtain ⟨f, hf⟩ := h.tr n hn
    have hc := (cnt_kids hf).1
    have hg := gt_length (c := cnt p) (ksT p n) o [] (fun x hx o => by
      have := h.kids n hn x (ksT_mem hx)
      exact ih x.toNat (by omega) (by omega) o)
    rw [tn_eq (h.kids n hn), List.length_append, hg.1]
    simp only [List.length_cons, List.length_nil]
    omega
theorem sum_ge (l : List Int) (g : Int → Nat) (h : ∀ x ∈ l, 1 ≤ g x) : l.length ≤ (l.map g).sum := by
  induction l with
  | nil => simp
  | cons y l ih =>
    have := ih (fun x hx => h x (List.mem_cons_of_mem _ hx))
    have := h y (List.mem_cons_self ..)
    rw [List.length_cons, List.map_cons, List.sum_cons]
    omega
theorem Tr.cnt_le {p : List PNd} (h : Tr p) (n : Nat) (hn : n < p.length) : cnt p n ≤ 40 := by
  have := h.len
  unfold cnt
  omega
theorem Tr.fan {p : List PNd} (h : Tr p) (n : Nat) (hn : n < p.length) : (rd_T44 p (n : Int)).f2.length ≤ 40 := by
  obtain ⟨f, hf⟩ := h.tr n hn
  have hc := cnt_kids hf
  have := sum_ge (ksT p n) (fun x => cnt p x.toNat) (fun x hx => by obtain ⟨g, hg⟩ := hc.2 x hx; exact cnt_pos hg)
  have := h.cnt_le n hn
  have := ksT_length p n
  omega
/-- All nodes have kids' rows of at most forty. -/
def thin (o : List PNd) : Prop := ∀ x ∈ o, x.f2.length ≤ 40
theorem gt_thin {F : Nat → List PNd → List PNd} : ∀ (ks : List Int) (o : List PNd) (a : List Int), (∀ x ∈ ks, ∀ o, thin o → thin (F x.toNat o)) → thin o → thin (gt F ks o a).1 := by
  intro ks
  induction ks with
  | nil => intro o a _ h; exact h
  | cons y ks ih =>
    intro o a h ho
    simp only [gt]
    exact ih _ _ (fun x hx => h x (List.mem_cons_of_mem _ hx)) (h y (List.mem_cons_self ..) o ho)
theorem Tr.thin {p : List PNd} (h : Tr p) : ∀ n, n < p.length → ∀ o, thin o → thin (tn p n o) := by
  intro n
  induction n using Nat.strongRecOn with
  | ind n ih =>
    intro hn o ho
    have hl := (gt_length (c := cnt p) (ksT p n) o [] (fun x hx o => by
      have := h.kids n hn x (ksT_mem hx)
      exact h.length x.toNat (by omega) o)).2
    rw [tn_eq (h.kids n hn)]
    intro y hy
    rcases List.mem_append.mp hy with hy | hy
    · exact gt_thin (ksT p n) o [] (fun x hx o ho => by
        have := h.kids n hn x (ksT_mem hx)
        exact ih x.toNat (by omega) (by omega) o ho) ho y hy
    · rw [List.mem_singleton.mp hy]
      have := h.fan n hn
      rw [← ksT_length] at this
      have e : (mkN (rd_T44 p (n : Int)) (gt (tn p) (ksT p n) o []).2).f2 = (gt (tn p) (ksT p n) o []).2 := rfl
      rw [e, hl]
      simpa using this
theorem wM_thin : ∀ (o : List PNd), thin o → wM o ≤ 43 * o.length := by
  intro o
  induction o with
  | nil => intro _; simp [wM]
  | cons x o ih =>
    intro h
    have := h x (List.mem_cons_self ..)
    have := ih (fun y hy => h y (List.mem_cons_of_mem _ hy))
    rw [wM, List.length_cons]
    omega
theorem rd_rev (l : List Int) (m : Nat) (h : m < l.length) : rd l.reverse (m : Int) = rd l ((l.length - 1 - m : Nat) : Int) := by
  unfold rd
  simp only [Int.toNat_natCast, List.getD_eq_getElem?_getD]
  rw [List.getElem?_reverse h]
theorem spec_turn_ev {p : List PNd} (h : Tr p) : ∀ n, n < p.length → ∀ o : List PNd, o.length + cnt p n ≤ 1000 → Ev (fun k => spec_l8Turn.f k p (n : Int) o) (tn p n o) := by
  intro n
  induction n using Nat.strongRecOn with
  | ind n ih =>
    intro hn o ho
    have hfan := h.fan n hn
    have hkl := ksT_length p n
    obtain ⟨f, hf⟩ := h.tr n hn
    have hc := (cnt_kids hf).1
    have hlen := fun x (hx : x ∈ ksT p n) (o : List PNd) => h.length x.toNat (by have := h.kids n hn x (ksT_mem hx); omega) o
    have loop : ∀ d m, m + d = (ksT p n).length → ∀ (o : List PNd) (a : List Int), a.length = m → o.length + (((ksT p n).drop m).map (fun x => cnt p x.toNat)).sum ≤ 1000 → Ev (fun k => spec_l8Turn.l0 k p (n : Int) o a (m : Int)) (gt (tn p) ((ksT p n).drop m) o a) := by
      intro d
      induction d with
      | zero =>
        intro m hm o a ha _
        refine Ev.later fun k => ?_
        simp only [spec_l8Turn.l0]
        rw [if_neg (cast_nlt (by omega)), List.drop_eq_nil_of_le (by omega)]
        rfl
      | succ d ihd =>
        intro m hm o a ha hs
        have hml : m < (ksT p n).length := by omega
        rw [list_drop _ _ hml] at hs ⊢
        simp only [List.map_cons, List.sum_cons, gt] at hs ⊢
        have hmem := rd_mem (ksT p n) m hml
        have hy := h.kids n hn _ (ksT_mem hmem)
        obtain ⟨y, hye⟩ : ∃ y, y = rd (ksT p n) (m : Int) := ⟨_, rfl⟩
        rw [← hye] at hs hmem hy ⊢
        have hcnt := hlen y hmem o
        have hcall := ih y.toNat (by omega) (by omega) o (by omega)
        have hnext := ihd (m + 1) (by omega) (tn p y.toNat o) (a ++ [((tn p y.toNat o).length : Int) - 1]) (by rw [List.length_append, ha]; rfl) (by rw [hcnt]; omega)
        refine Ev.step (f := fun k => (spec_l8Turn.f k p ((y.toNat : Nat) : Int) o).bind fun o1 => if a.length + o1.length < 1000000 then (spec_l8Turn.l0 k p (n : Int) o1 (a ++ [wrap64 ((o1.length : Int) - 1)]) ((m + 1 : Nat) : Int)) else none) (fun k => ?_) ?_
        · have ey : ((y.toNat : Nat) : Int) = y := by omega
          simp only [spec_l8Turn.l0]
          rw [if_pos (cast_lt (by omega)), ey, w64 (x := (m : Int) + 1) (by omega) (by omega)]
          by_cases c2 : (rd_T44 p (n : Int)).f0 = 2
          · have er : y = rd (rd_T44 p (n : Int)).f2 (((rd_T44 p (n : Int)).f2.length - 1 - m : Nat) : Int) := by
              rw [hye]; unfold ksT; rw [if_pos c2]; exact rd_rev _ _ (by omega)
            rw [if_pos c2, w64 (x := ((rd_T44 p (n : Int)).f2.length : Int) - 1) (by omega) (by omega), w64 (x := ((rd_T44 p (n : Int)).f2.length : Int) - 1 - (m : Int)) (by omega) (by omega), if_pos (by omega), if_pos (by omega), show ((rd_T44 p (n : Int)).f2.length : Int) - 1 - (m : Int) = (((rd_T44 p (n : Int)).f2.length - 1 - m : Nat) : Int) by omega, ← er]
            rfl
          · have er : y = rd (rd_T44 p (n : Int)).f2 (m : Int) := by rw [hye]; unfold ksT; rw [if_neg c2]
            rw [if_neg c2, if_pos (by omega), if_pos (cast_lt (by omega)), ← er]
            rfl
        · refine Ev.bind hcall ?_
          have hb := h.len
          simp only [if_pos (show a.length + (tn p y.toNat o).length < 1000000 by omega)]
          rw [w64 (x := ((tn p y.toNat o).length : Int) - 1) (by omega) (by omega)]
          exact hnext
    have l := loop (ksT p n).length 0 (by omega) o [] rfl (by rw [List.drop_zero]; omega)
    rw [List.drop_zero] at l
    rw [tn_eq (h.kids n hn)]
    have hgl := (gt_length (c := cnt p) (ksT p n) o [] hlen).1
    refine Ev.step (f := fun k => (spec_l8Turn.l0 k p (n : Int) o [] ((0 : Nat) : Int)).bind fun q => (if q.1.length < 1000000 then some (q.1 ++ [mkN (rd_T44 p (n : Int)) q.2]) else none)) (fun k => ?_) ?_
    · simp only [spec_l8Turn.f]
      rw [if_pos (by omega), if_pos (cast_lt hn)]
      rfl
    · refine Ev.bind l ?_
      simp only [if_pos (show (gt (tn p) (ksT p n) o []).1.length < 1000000 by omega)]
      exact Ev.now _
theorem rev_l0 : ∀ (N : Nat) (mid pre post : List Int), mid.length ≤ N → pre.length + mid.length + post.length ≤ 1000000 → Ev (fun k => slices_Reverse_int64_int64.l0 k (pre ++ mid ++ post) (pre.length : Int) ((pre.length : Int) + (mid.length : Int) - 1)) (pre ++ mid.reverse ++ post) := by
  intro N
  induction N with
  | zero =>
    intro mid pre post hm _
    obtain rfl : mid = [] := List.eq_nil_of_length_eq_zero (by omega)
    refine Ev.later fun k => ?_
    simp only [slices_Reverse_int64_int64.l0, List.length_nil, List.reverse_nil]
    rw [if_neg (by omega)]
  | succ N ih =>
    intro mid pre post hm hl
    match mid, hm, hl with
    | [], _, _ =>
      refine Ev.later fun k => ?_
      simp only [slices_Reverse_int64_int64.l0, List.length_nil, List.reverse_nil]
      rw [if_neg (by omega)]
    | a :: r, hm, hl =>
      rcases List.eq_nil_or_concat r with rfl | ⟨m, b, rfl⟩
      · refine Ev.later fun k => ?_
        simp only [slices_Reverse_int64_int64.l0, List.length_cons, List.length_nil, List.reverse_cons, List.reverse_nil, List.nil_append]
        rw [if_neg (by omega)]
      · rw [List.concat_eq_append] at hm hl ⊢
        simp only [List.length_cons, List.length_append, List.length_nil] at hm hl
        have h := ih m (pre ++ [b]) (a :: post) (by omega) (by simp; omega)
        have e1 : pre ++ (a :: (m ++ [b])) ++ post = pre ++ a :: (m ++ b :: post) := by simp
        have e2 : pre ++ b :: (m ++ b :: post) = (pre ++ b :: m) ++ b :: post := by simp
        have e3 : (pre ++ b :: m) ++ a :: post = pre ++ [b] ++ m ++ a :: post := by simp
        have e4 : pre ++ a :: (m ++ b :: post) = (pre ++ a :: m) ++ b :: post := by simp
        have r1 : rd (pre ++ a :: (m ++ b :: post)) (pre.length : Int) = a := rdI_at _ _ _
        have r2 : rd (pre ++ a :: (m ++ b :: post)) (((pre ++ a :: m).length : Nat) : Int) = b := by rw [e4]; exact rdI_at _ _ _
        have lm : (pre ++ a :: m).length = pre.length + m.length + 1 := by simp; omega
        have lm2 : (pre ++ b :: m).length = pre.length + m.length + 1 := by simp; omega
        have lt : (pre ++ a :: (m ++ b :: post)).length = pre.length + m.length + 2 + post.length := by simp; omega
        have eR : pre ++ (a :: (m ++ [b])).reverse ++ post = pre ++ [b] ++ m.reverse ++ a :: post := by simp
        rw [eR]
        refine Ev.step (f := fun k => slices_Reverse_int64_int64.l0 k (pre ++ [b] ++ m ++ a :: post) (((pre ++ [b]).length : Nat) : Int) ((((pre ++ [b]).length : Nat) : Int) + (m.length : Int) - 1)) (fun k => ?_) h
        have ej : (pre.length : Int) + ((a :: (m ++ [b])).length : Int) - 1 = (((pre ++ a :: m).length : Nat) : Int) := by rw [lm]; simp; omega
        simp only [slices_Reverse_int64_int64.l0]
        rw [ej, e1, lt, if_pos (by omega), if_pos (by omega), if_pos (by omega), if_pos (by omega), if_pos (by omega), r1, r2, Int.toNat_natCast, Int.toNat_natCast, set_at, e2, lm, ← lm2, set_at, e3, w64 (x := (pre.length : Int) + 1) (by omega) (by omega), w64 (x := (((pre ++ b :: m).length : Nat) : Int) - 1) (by omega) (by omega)]
        have e5 : (((pre ++ [b]).length : Nat) : Int) = (pre.length : Int) + 1 := by simp
        rw [e5, lm2]
        congr 1
        omega
theorem rev_ev (l : List Int) (h : l.length ≤ 1000000) : Ev (fun k => slices_Reverse_int64_int64.f k l) l.reverse := by
  have h0 := rev_l0 l.length l [] [] (Nat.le_refl _) (by simpa using h)
  simp only [List.nil_append, List.append_nil, List.length_nil] at h0
  refine Ev.congr (fun k => ?_) h0
  simp only [slices_Reverse_int64_int64.f]
  rw [w64 (x := (l.length : Int) - 1) (by omega) (by omega)]
  congr 1
  omega
theorem impl_turn_ev {p : List PNd} (h : Tr p) : ∀ n, n < p.length → ∀ o : List PNd, o.length + cnt p n ≤ 1000 → Ev (fun k => impl_turn.f k p (n : Int) o) (((tn p n o).length : Int) - 1, tn p n o) := by
  intro n
  induction n using Nat.strongRecOn with
  | ind n ih =>
    intro hn o ho
    have hfan := h.fan n hn
    have hkl := ksT_length p n
    obtain ⟨f, hf⟩ := h.tr n hn
    have hc := (cnt_kids hf).1
    have hlen := fun x (hx : x ∈ ksT p n) (o : List PNd) => h.length x.toNat (by have := h.kids n hn x (ksT_mem hx); omega) o
    have loop : ∀ d m, m + d = (ksT p n).length → ∀ (o : List PNd) (a : List Int), a.length = m → o.length + (((ksT p n).drop m).map (fun x => cnt p x.toNat)).sum ≤ 1000 → Ev (fun k => impl_turn.l0 k p o (a ++ (ksT p n).drop m) ((ksT p n).length : Int) (m : Int)) (gt (tn p) ((ksT p n).drop m) o a) := by
      intro d
      induction d with
      | zero =>
        intro m hm o a ha _
        refine Ev.later fun k => ?_
        simp only [impl_turn.l0]
        rw [if_neg (cast_nlt (by omega)), List.drop_eq_nil_of_le (by omega), List.append_nil]
        rfl
      | succ d ihd =>
        intro m hm o a ha hs
        have hml : m < (ksT p n).length := by omega
        rw [list_drop _ _ hml] at hs ⊢
        simp only [List.map_cons, List.sum_cons, gt] at hs ⊢
        have hmem := rd_mem (ksT p n) m hml
        have hy := h.kids n hn _ (ksT_mem hmem)
        obtain ⟨y, hye⟩ : ∃ y, y = rd (ksT p n) (m : Int) := ⟨_, rfl⟩
        rw [← hye] at hs hmem hy ⊢
        have hcnt := hlen y hmem o
        have hcall := ih y.toNat (by omega) (by omega) o (by omega)
        have hnext := ihd (m + 1) (by omega) (tn p y.toNat o) (a ++ [((tn p y.toNat o).length : Int) - 1]) (by rw [List.length_append, ha]; rfl) (by rw [hcnt]; omega)
        refine Ev.step (f := fun k => (impl_turn.f k p ((y.toNat : Nat) : Int) o).bind fun q => (impl_turn.l0 k p q.2 ((a ++ [q.1]) ++ (ksT p n).drop (m + 1)) ((ksT p n).length : Int) ((m + 1 : Nat) : Int))) (fun k => ?_) ?_
        · have ey : ((y.toNat : Nat) : Int) = y := by omega
          have er : rd (a ++ y :: (ksT p n).drop (m + 1)) (m : Int) = y := by rw [← ha]; exact rdI_at _ _ _
          have es : ∀ v : Int, (a ++ y :: (ksT p n).drop (m + 1)).set m v = (a ++ [v]) ++ (ksT p n).drop (m + 1) := fun v => by rw [← ha, set_at, app_one]
          have el : (m : Int) < ((a ++ y :: (ksT p n).drop (m + 1)).length : Int) := by rw [← ha]; exact lt_app _ _ _
          simp only [impl_turn.l0]
          rw [if_pos (cast_lt hml), if_pos (by omega), if_pos el, er, ey, Int.toNat_natCast, w64 (x := (m : Int) + 1) (by omega) (by omega)]
          simp only [es]
          rfl
        · exact Ev.bind hcall hnext
    have l := loop (ksT p n).length 0 (by omega) o [] rfl (by rw [List.drop_zero]; omega)
    rw [List.drop_zero, List.nil_append] at l
    have hgl := (gt_length (c := cnt p) (ksT p n) o [] hlen).1
    have hks : Ev (fun k => if (rd_T44 p (n : Int)).f0 = 2 then slices_Reverse_int64_int64.f k (rd_T44 p (n : Int)).f2 else some (rd_T44 p (n : Int)).f2) (ksT p n) := by
      unfold ksT
      by_cases c2 : (rd_T44 p (n : Int)).f0 = 2
      · simp only [if_pos c2]; exact rev_ev _ (by omega)
      · simp only [if_neg c2]; exact Ev.now _
    have hl2 := h.length n hn o
    have hte := tn_eq (h.kids n hn) o
    refine Ev.step (f := fun k => (if (rd_T44 p (n : Int)).f0 = 2 then slices_Reverse_int64_int64.f k (rd_T44 p (n : Int)).f2 else some (rd_T44 p (n : Int)).f2).bind fun ks => (impl_turn.l0 k p o ks (ks.length : Int) ((0 : Nat) : Int)).bind fun q => (if q.1.length < 1000000 then some (wrap64 (((q.1 ++ [mkN (rd_T44 p (n : Int)) q.2]).length : Int) - 1), q.1 ++ [mkN (rd_T44 p (n : Int)) q.2]) else none)) (fun k => ?_) ?_
    · simp only [impl_turn.f]
      rw [if_pos (by omega), if_pos (cast_lt hn), if_pos (by omega)]
      rfl
    · refine Ev.bind hks (Ev.bind l ?_)
      simp only [if_pos (show (gt (tn p) (ksT p n) o []).1.length < 1000000 by omega)]
      rw [← hte, w64 (x := ((tn p n o).length : Int) - 1) (by omega) (by omega)]
      exact Ev.now _
end Go.Proofs.Ytaliphegdclkfaa.PU
