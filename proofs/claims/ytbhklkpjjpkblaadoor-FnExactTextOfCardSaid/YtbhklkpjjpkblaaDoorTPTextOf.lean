/- The texts right below an element: the reference collects the places first, the program walks once. -/
import Derived.Test.YtbhklkpjjpkblaaDoorPTx0
import Derived.Test.YtbhklkpjjpkblaaDoorPTx7
import Derived.Test.YtbhklkpjjpkblaaDoorPTx13
import Derived.Test.YtbhklkpjjpkblaaDoorTPBase
import Derived.Test.YtbhklkpjjpkblaaDoorTPIn
import Derived.Test.YtbhklkpjjpkblaaDoorTPBytes
import Derived.Test.YtbhklkpjjpkblaaDoorTPItems
import Derived.Test.YtbhklkpjjpkblaaDoorTPGood
import Derived.Test.YtbhklkpjjpkblaaDoorTPDoc
import Derived.Test.YtbhklkpjjpkblaaDoorTPDocUp
namespace Go.Proofs.YtbhklkpjjpkblaaDoor.PT
open Go.RowKit Go.Proofs.YtbhklkpjjpkblaaDoorW.PrintWords Go.Proofs.YtbhklkpjjpkblaaDoorW.PrintMore
set_option linter.unusedVariables false
set_option linter.unusedSimpArgs false
def kidsR (L : List S74) (n : Int) : Nat → Nat → List Int
  | 0, _ => []
  | d + 1, i => if (rd_T74 L (i : Int)).f0 = n then (i : Int) :: kidsR L n d (i + 1) else kidsR L n d (i + 1)
theorem kidsR_in (L : List S74) (n : Int) : ∀ d i, i + d = L.length → ∀ x ∈ kidsR L n d i, 0 ≤ x ∧ x < (L.length : Int)
  | 0, _, _, _, h => by simp [kidsR] at h
  | d + 1, i, hi, x, h => by
    rw [kidsR] at h
    split at h
    · rcases List.mem_cons.1 h with e | e
      · omega
      · exact kidsR_in L n d (i + 1) (by omega) x e
    · exact kidsR_in L n d (i + 1) (by omega) x h
theorem kidsR_length (L : List S74) (n : Int) : ∀ d i, (kidsR L n d i).length ≤ d
  | 0, _ => by simp [kidsR]
  | d + 1, i => by
    have := kidsR_length L n d (i + 1)
    rw [kidsR]
    split
    · simp only [List.length_cons]; omega
    · omega
def txts (L : List S74) (l : List Int) : List UInt8 := l.flatMap fun j => (rd_T74 L j).f2.data.toList
theorem kids_cat (L : List S74) (n : Int) : ∀ d i, i + d = L.length → txts L (kidsR L n d i) = impl_textBelow.cat (L.drop i) n
  | 0, i, hi => by
    rw [List.drop_eq_nil_of_le (by omega)]
    rfl
  | d + 1, i, hi => by
    have hi2 : i < L.length := by omega
    have ih := kids_cat L n d (i + 1) (by omega)
    have e : rd_T74 L (i : Int) = L[i] := getII L i hi2
    rw [List.drop_eq_getElem_cons hi2, kidsR]
    unfold impl_textBelow.cat at ih ⊢
    rw [List.flatMap_cons, ← ih, e]
    by_cases c : L[i].f0 = n
    · rw [if_pos c, if_pos c]
      unfold txts
      rw [List.flatMap_cons, e]
    · rw [if_neg c, if_neg c]
      rfl
theorem kids_l0_ev (L : List S74) (hL : L.length ≤ 200) (n : Int) : ∀ d i (acc : List Int), i + d = L.length → acc.length ≤ i → Ev (fun k => spec_l2Kids.l0 k L n acc (i : Int)) (acc ++ kidsR L n d i) := by
  intro d
  induction d with
  | zero =>
    intro i acc hi ha
    refine Ev.later fun k => ?_
    simp only [spec_l2Kids.l0]
    rw [if_neg (cast_nlt (by omega)), kidsR, List.append_nil]
  | succ d ih =>
    intro i acc hi ha
    have hi2 : i < L.length := by omega
    rw [kidsR]
    by_cases c : (rd_T74 L (i : Int)).f0 = n
    · rw [if_pos c]
      have h := ih (i + 1) (acc ++ [(i : Int)]) (by omega) (by rw [List.length_append]; simp only [List.length_cons, List.length_nil]; omega)
      rw [List.append_assoc] at h
      refine Ev.step (fun k => ?_) h
      simp only [spec_l2Kids.l0]
      rw [if_pos (cast_lt hi2), if_pos (by omega), if_pos c, if_pos (by omega), wrap_succ (n := L.length) (by omega) (cast_lt hi2) (by omega)]
      rfl
    · rw [if_neg c]
      refine Ev.step (fun k => ?_) (ih (i + 1) acc (by omega) (by omega))
      simp only [spec_l2Kids.l0]
      rw [if_pos (cast_lt hi2), if_pos (by omega), if_neg c, wrap_succ (n := L.length) (by omega) (cast_lt hi2) (by omega)]
      rfl
theorem kids_ev (L : List S74) (hL : L.length ≤ 200) (m : Nat) (hm : m < L.length) : Ev (fun k => spec_l2Kids.f k L (m : Int)) (kidsR L (m : Int) (L.length - (m + 1)) (m + 1)) := by
  unfold spec_l2Kids.f
  rw [w64 (x := (m : Int) + 1) (by omega) (by omega)]
  have := kids_l0_ev L hL (m : Int) (L.length - (m + 1)) (m + 1) [] (by omega) (by simp)
  simpa using this
theorem cat_front (n : Int) : ∀ l : List S74, (∀ x ∈ l, ¬ x.f0 = n) → impl_textBelow.cat l n = []
  | [], _ => rfl
  | x :: l, h => by
    have ih := cat_front n l (fun y hy => h y (List.mem_cons_of_mem _ hy))
    unfold impl_textBelow.cat at ih ⊢
    rw [List.flatMap_cons, ih, if_neg (h x (List.mem_cons_self ..))]
    rfl
theorem cat_behind (L : List S74) (m : Nat) (hm : m < L.length) (hup : ∀ j, j < L.length → -1 ≤ (rd_T74 L (j : Int)).f0 ∧ (rd_T74 L (j : Int)).f0 < (j : Int)) : impl_textBelow.cat L (m : Int) = impl_textBelow.cat (L.drop (m + 1)) (m : Int) := by
  have e : impl_textBelow.cat (L.take (m + 1) ++ L.drop (m + 1)) (m : Int) = impl_textBelow.cat (L.take (m + 1)) (m : Int) ++ impl_textBelow.cat (L.drop (m + 1)) (m : Int) := by
    unfold impl_textBelow.cat
    rw [List.flatMap_append]
  rw [List.take_append_drop] at e
  rw [e, cat_front]
  · rfl
  · intro x hx
    obtain ⟨i, hi, rfl⟩ := List.mem_iff_getElem.1 hx
    rw [List.length_take] at hi
    rw [List.getElem_take]
    have := hup i (by omega)
    rw [getII L i (by omega)] at this
    omega
theorem text_l0_ev (L : List S74) (hx : ∀ x ∈ L, smallI x) (K : List Int) (hK : ∀ x ∈ K, 0 ≤ x ∧ x < (L.length : Int)) (hl : K.length ≤ 200) : ∀ d i (acc : ByteArray), i + d = K.length → acc.size ≤ i * 1048576 → Ev (fun k => spec_l2Text.l0 k L acc K (i : Int)) ⟨(acc.data.toList ++ txts L (K.drop i)).toArray⟩ := by
  intro d
  induction d with
  | zero =>
    intro i acc hi ha
    rw [List.drop_eq_nil_of_le (by omega)]
    refine Ev.later fun k => ?_
    simp only [spec_l2Text.l0]
    rw [if_neg (cast_nlt (by omega))]
    congr 1
    apply bytes_ext
    simp [txts]
  | succ d ih =>
    intro i acc hi ha
    have hi2 : i < K.length := by omega
    have hr := hK _ (rd_mem K i hi2)
    have hs : (rd_T74 L (rd K (i : Int))).f2.size ≤ 1048576 := by
      obtain ⟨m, hm⟩ := Int.eq_ofNat_of_zero_le hr.1
      rw [hm, getII L m (by omega)]
      exact (hx _ (List.getElem_mem _)).2.1
    have h := ih (i + 1) (acc ++ (rd_T74 L (rd K (i : Int))).f2) (by omega) (by rw [ByteArray.size_append]; omega)
    rw [list_drop K i hi2]
    have e : acc.data.toList ++ txts L (rd K (i : Int) :: K.drop (i + 1)) = (acc ++ (rd_T74 L (rd K (i : Int))).f2).data.toList ++ txts L (K.drop (i + 1)) := by
      rw [append_list]
      unfold txts
      rw [List.flatMap_cons, List.append_assoc]
    rw [e]
    refine Ev.step (fun k => ?_) h
    simp only [spec_l2Text.l0]
    rw [if_pos (cast_lt hi2), if_pos (by omega), if_pos hr.1, if_pos hr.2, if_pos (by omega), wrap_succ (n := K.length) (by omega) (cast_lt hi2) (by omega)]
    rfl
theorem cat_length (L : List S74) (n : Int) : (impl_textBelow.cat L n).length ≤ wIs L := by
  induction L with
  | nil => simp [impl_textBelow.cat]
  | cons x L ih =>
    unfold impl_textBelow.cat at ih ⊢
    rw [List.flatMap_cons, List.length_append, wIs_cons]
    have hw1 : wI x = x.f1.size + x.f2.size + x.f3.length + wAs x.f3 := rfl
    split
    · rw [data_length]; omega
    · simp only [List.length_nil]; omega
theorem text_both (L : List S74) (hL : L.length ≤ 200) (hx : ∀ x ∈ L, smallI x) (hw : wIs L ≤ 1048576) (hup : ∀ j, j < L.length → -1 ≤ (rd_T74 L (j : Int)).f0 ∧ (rd_T74 L (j : Int)).f0 < (j : Int)) (m : Nat) (hm : m < L.length) : ∃ r, Ev (fun k => spec_l2Text.f k L (m : Int)) r ∧ impl_textBelow.f L (m : Int) = some r := by
  refine ⟨⟨(impl_textBelow.cat L (m : Int)).toArray⟩, ?_, ?_⟩
  · unfold spec_l2Text.f
    refine Ev.bind (kids_ev L hL m hm) ?_
    have hlen := kidsR_length L (m : Int) (L.length - (m + 1)) (m + 1)
    have h := text_l0_ev L hx (kidsR L (m : Int) (L.length - (m + 1)) (m + 1)) (kidsR_in L (m : Int) (L.length - (m + 1)) (m + 1) (by omega)) (by omega) (kidsR L (m : Int) (L.length - (m + 1)) (m + 1)).length 0 (⟨#[]⟩ : ByteArray) (by omega) (Nat.zero_le _)
    rw [List.drop_zero, kids_cat L (m : Int) (L.length - (m + 1)) (m + 1) (by omega), ← cat_behind L m hm hup] at h
    exact h
  · unfold impl_textBelow.f
    rw [if_pos (by have := cat_length L (m : Int); omega)]
end Go.Proofs.YtbhklkpjjpkblaaDoor.PT
