/- Decimal numbers: the program's product of rows of digits. -/
import Derived.Test.YtaliphegdclkfaaDoorPZx5
import Derived.Test.YtaliphegdclkfaaDoorPZx6
import Derived.Test.YtaliphegdclkfaaDoorZPBase
import Derived.Test.YtaliphegdclkfaaDoorZPIn
import Derived.Test.YtaliphegdclkfaaDoorZPDec
import Derived.Test.YtaliphegdclkfaaDoorZPDecN
import Derived.Test.YtaliphegdclkfaaDoorZPVal
namespace Go.Proofs.YtaliphegdclkfaaDoor.PZ
open Go.RowKit Go.Proofs.YtaliphegdclkfaaDoorW.PrintWords Go.Proofs.YtaliphegdclkfaaDoorW.PrintMore
set_option linter.unusedVariables false
set_option linter.unusedSimpArgs false
theorem allD_bt {s : ByteArray} (h : allD s = true) (i : Int) (h0 : 0 ≤ i) (h1 : i < (s.size : Int)) : 48 ≤ bt s i ∧ bt s i ≤ 57 := by
  unfold allD at h
  have hm : bt s i ∈ bytesOf s := by
    rw [← rd_bytesOf]
    have := rd_mem (bytesOf s) i.toNat (by rw [bytesOf_length]; omega)
    rw [show ((i.toNat : Nat) : Int) = i by omega] at this
    exact this
  have := List.all_eq_true.1 h _ hm
  unfold digB at this
  simpa using this
/-- A text's digits. -/
def dg (s : ByteArray) : List Int := (bytesOf s).map (· - 48)
theorem dg_length (s : ByteArray) : (dg s).length = s.size := by unfold dg; rw [List.length_map, bytesOf_length]
theorem dg_get (s : ByteArray) (i : Nat) (h : i < (dg s).length) : (dg s)[i] = bt s (i : Int) - 48 := by
  have h2 : i < (bytesOf s).length := by rw [bytesOf_length, ← dg_length]; exact h
  have e : (dg s)[i] = (bytesOf s)[i] - 48 := List.getElem_map ..
  rw [e, ← rd_bytesOf]
  unfold rd
  simp [List.getD_eq_getElem?_getD, h2]
theorem dg_range {s : ByteArray} (hs : allD s = true) (i : Nat) (h : i < (dg s).length) : 0 ≤ (dg s)[i] ∧ (dg s)[i] ≤ 9 := by
  have := allD_bt hs (i : Int) (by omega) (by rw [dg_length] at h; omega)
  rw [dg_get]
  omega
theorem dg_digs {s : ByteArray} (hs : allD s = true) : digsI (dg s) := by
  intro x hx
  obtain ⟨i, hi, rfl⟩ := List.getElem_of_mem hx
  exact dg_range hs i hi
theorem bt_dg {s : ByteArray} (hs : allD s = true) (i : Nat) (h : i < (dg s).length) : (bt s (i : Int) - 48) % 256 = (dg s)[i] := by
  have := dg_range hs i h
  rw [dg_get] at *
  omega
theorem rd_at (l : List Int) (i : Nat) : rd l (i : Int) = l.getD i 0 := by unfold rd; rw [Int.toNat_natCast]
theorem getD_at (l : List Int) (i : Nat) (h : i < l.length) : l.getD i 0 = l[i] := by simp [List.getD_eq_getElem?_getD, h]
theorem getD_set (l : List Int) (i j : Nat) (v : Int) (h : i < l.length) : (l.set i v).getD j 0 = if i = j then v else l.getD j 0 := by
  rw [List.getD_eq_getElem?_getD, List.getD_eq_getElem?_getD, List.getElem?_set]
  by_cases e : i = j
  · subst e; simp [h]
  · simp [e]
def TT (l : List Int) (m : Nat) : Int := val (l.take m) * 10 ^ (l.length - m)
theorem TT_zero (l : List Int) : TT l 0 = 0 := by unfold TT; simp [val]
theorem TT_full (l : List Int) : TT l l.length = val l := by unfold TT; simp
theorem TT_succ (l : List Int) (m : Nat) (h : m < l.length) : TT l (m + 1) = TT l m + l[m] * 10 ^ (l.length - (m + 1)) := by
  unfold TT
  rw [val_take l m h, show l.length - m = (l.length - (m + 1)) + 1 by omega, p10_succ, Int.add_mul]
  congr 1
  rw [Int.mul_assoc, Int.mul_comm 10]
theorem prod_range {a b : Int} (ha : 0 ≤ a ∧ a ≤ 9) (hb : 0 ≤ b ∧ b ≤ 9) : 0 ≤ a * b ∧ a * b ≤ 81 := by
  have h1 : 0 ≤ a * b := Int.mul_nonneg ha.1 hb.1
  have h2 : a * b ≤ 9 * b := Int.mul_le_mul_of_nonneg_right ha.2 hb.1
  omega
theorem alg_pq (a b P Q T : Int) : (a * P) * (T + b * Q) = (a * P) * T + (a * b) * (P * Q) := by
  rw [Int.mul_add]
  congr 1
  rw [Int.mul_assoc, Int.mul_assoc, ← Int.mul_assoc P b Q, Int.mul_comm P b, Int.mul_assoc b P Q]
theorem alg_carry (s o W : Int) : (s % 10 - o) * W + (s / 10) * (W * 10) = (s - o) * W := by
  rw [Int.mul_comm W 10, ← Int.mul_assoc, ← Int.add_mul]
  congr 1
  omega
/-- In row i, m digits are to come. -/
structure InvI (x y : ByteArray) (i m : Nat) (out : List Int) : Prop where
  len : out.length = x.size + y.size
  nn : ∀ j : Nat, 0 ≤ out.getD j 0
  le : ∀ j : Nat, j ≠ i + m → out.getD j 0 ≤ 9
  top : out.getD (i + m) 0 ≤ 18
  low : m = 0 → out.getD i 0 ≤ 9
  zr : ∀ j : Nat, j < i ∨ (j = i ∧ 0 < m) → out.getD j 0 = 0
  vl : val out + (((dg x).getD i 0 * 10 ^ (x.size - (i + 1))) * TT (dg y) m + TT (dg x) i * val (dg y)) = val (dg x) * val (dg y)
structure InvO (x y : ByteArray) (i : Nat) (out : List Int) : Prop where
  len : out.length = x.size + y.size
  nn : ∀ j : Nat, 0 ≤ out.getD j 0
  le : ∀ j : Nat, out.getD j 0 ≤ 9
  zr : ∀ j : Nat, j < i → out.getD j 0 = 0
  vl : val out + TT (dg x) i * val (dg y) = val (dg x) * val (dg y)
def stepI (x y : ByteArray) (i m : Nat) (out : List Int) : List Int :=
  let s := out.getD (i + m + 1) 0 + (dg x).getD i 0 * (dg y).getD m 0
  (out.set (i + m + 1) (s % 10)).set (i + m) (out.getD (i + m) 0 + s / 10)
theorem stepI_inv (x y : ByteArray) (hx : allD x = true) (hy : allD y = true) (i m : Nat) (hi : i < x.size) (hm : m < y.size) (out : List Int) (h : InvI x y i (m + 1) out) :
    InvI x y i m (stepI x y i m out) ∧ 0 ≤ out.getD (i + m + 1) 0 + (dg x).getD i 0 * (dg y).getD m 0 ∧ out.getD (i + m + 1) 0 + (dg x).getD i 0 * (dg y).getD m 0 ≤ 99 := by
  obtain ⟨len, nn, le, top, low, zr, vl⟩ := h
  have hxi : i < (dg x).length := by rw [dg_length]; exact hi
  have hym : m < (dg y).length := by rw [dg_length]; exact hm
  have ha := dg_range hx i hxi
  have hb := dg_range hy m hym
  have ea := getD_at (dg x) i hxi
  have eb := getD_at (dg y) m hym
  have hab := prod_range ha hb
  rw [TT_succ (dg y) m hym, ← eb] at vl
  rw [← ea, ← eb] at hab
  rw [← ea] at ha
  rw [← eb] at hb
  have hl1 : i + m + 1 < out.length := by omega
  have hl2 : i + m < out.length := by omega
  have n1 := nn (i + m + 1)
  have n2 := nn (i + m)
  have l2 := le (i + m) (by omega)
  rw [show i + (m + 1) = i + m + 1 by omega] at top le
  have sr : 0 ≤ out.getD (i + m + 1) 0 + (dg x).getD i 0 * (dg y).getD m 0 ∧ out.getD (i + m + 1) 0 + (dg x).getD i 0 * (dg y).getD m 0 ≤ 99 := by omega
  refine ⟨?_, sr⟩
  unfold stepI
  generalize hs : out.getD (i + m + 1) 0 + (dg x).getD i 0 * (dg y).getD m 0 = s at *
  simp only []
  have hl2' : i + m < (out.set (i + m + 1) (s % 10)).length := by rw [List.length_set]; exact hl2
  have hg : ∀ j : Nat, ((out.set (i + m + 1) (s % 10)).set (i + m) (out.getD (i + m) 0 + s / 10)).getD j 0 = if i + m = j then out.getD (i + m) 0 + s / 10 else if i + m + 1 = j then s % 10 else out.getD j 0 := by
    intro j
    rw [getD_set _ _ _ _ hl2', getD_set _ _ _ _ hl1]
  refine ⟨?_, ?_, ?_, ?_, ?_, ?_, ?_⟩
  · rw [List.length_set, List.length_set]; exact len
  · intro j
    rw [hg]
    have := nn j
    split
    · omega
    · split <;> omega
  · intro j hj
    rw [hg, if_neg (by omega)]
    by_cases e : i + m + 1 = j
    · rw [if_pos e]; omega
    · rw [if_neg e]; exact le j (by omega)
  · rw [hg, if_pos rfl]; omega
  · intro hm0
    subst hm0
    rw [hg, if_pos (show i + 0 = i from rfl)]
    have := zr i (Or.inr ⟨rfl, by omega⟩)
    rw [show i + 0 = i from rfl, this]
    omega
  · intro j hj
    rw [hg, if_neg (by omega), if_neg (by omega)]
    exact zr j (by omega)
  · have e2 : (out.set (i + m + 1) (s % 10))[i + m]'hl2' = out.getD (i + m) 0 := by rw [List.getElem_set_ne (by omega), getD_at out (i + m) hl2]
    rw [val_set _ _ _ hl2', val_set _ _ _ hl1, e2, List.length_set, ← getD_at out (i + m + 1) hl1, len]
    have hW : x.size + y.size - (i + m + 1) = (x.size + y.size - (i + m + 1 + 1)) + 1 := by omega
    have hPQ : (10 : Int) ^ (x.size - (i + 1)) * 10 ^ (y.size - (m + 1)) = 10 ^ (x.size + y.size - (i + m + 1 + 1)) := by
      rw [← Int.pow_add]
      congr 1
      omega
    rw [hW, p10_succ, show out.getD (i + m) 0 + s / 10 - out.getD (i + m) 0 = s / 10 by omega]
    have hc := alg_carry s (out.getD (i + m + 1) 0) (10 ^ (x.size + y.size - (i + m + 1 + 1)))
    rw [dg_length, alg_pq, hPQ] at vl
    have hso : (s - out.getD (i + m + 1) 0) = (dg x).getD i 0 * (dg y).getD m 0 := by omega
    rw [hso] at hc
    omega
theorem impl_l1_ev (x y : ByteArray) (hx : allD x = true) (hy : allD y = true) (hxs : x.size ≤ 60) (hys : y.size ≤ 60) (na nb : Bool) (sa sb : Int) (i : Nat) (hi : i < x.size) : ∀ (m : Nat) (out : List Int), m ≤ y.size → InvI x y i m out → ∃ out', InvI x y i 0 out' ∧ ∀ R, Ev (fun k => impl_TimesDec.l0 k out' ((i : Int) - 1) na x sa nb y sb) R → Ev (fun k => impl_TimesDec.l1 k out (i : Int) ((m : Int) - 1) na x sa nb y sb) R
  | 0, out, _, h => ⟨out, h, fun R hR => by
      refine Ev.step (fun k => ?_) hR
      simp only [impl_TimesDec.l1]
      rw [if_neg (by omega), w64 (by omega) (by omega)]⟩
  | m + 1, out, hm, h => by
    obtain ⟨hi2, s0, s1⟩ := stepI_inv x y hx hy i m hi (by omega) out h
    obtain ⟨out', ho', hR'⟩ := impl_l1_ev x y hx hy hxs hys na nb sa sb i hi m (stepI x y i m out) (by omega) hi2
    refine ⟨out', ho', fun R hR => Ev.step (fun k => ?_) (hR' R hR)⟩
    have len := h.len
    have q1 : (m : Int) ≥ 0 := by omega
    have q2 : (0 : Int) ≤ ((i + m + 1 : Nat) : Int) := by omega
    have q3 : ((i + m + 1 : Nat) : Int) < (out.length : Int) := by omega
    have q4 : (0 : Int) ≤ (i : Int) := by omega
    have q5 : (i : Int) < (x.size : Int) := by omega
    have q6 : (0 : Int) ≤ (m : Int) := by omega
    have q7 : (m : Int) < (y.size : Int) := by omega
    have q8 : (0 : Int) ≤ ((i + m : Nat) : Int) := by omega
    have q9 : ((i + m : Nat) : Int) < (out.length : Int) := by omega
    have q10 : i + m + 1 < out.length := by omega
    have hxi : i < (dg x).length := by rw [dg_length]; exact hi
    have hym : m < (dg y).length := by rw [dg_length]; omega
    have ba := bt_dg hx i hxi
    have bb := bt_dg hy m hym
    rw [← getD_at (dg x) i hxi] at ba
    rw [← getD_at (dg y) m hym] at bb
    have hab := prod_range (dg_range hx i hxi) (dg_range hy m hym)
    rw [← getD_at (dg x) i hxi, ← getD_at (dg y) m hym] at hab
    have n1 := h.nn (i + m + 1)
    have n2 := h.nn (i + m)
    have l2 := h.le (i + m) (by omega)
    have e1 : wrap64 ((i : Int) + (((m + 1 : Nat) : Int) - 1)) = ((i + m : Nat) : Int) := by rw [w64 (by omega) (by omega)]; omega
    have e2 : wrap64 (((i + m : Nat) : Int) + 1) = ((i + m + 1 : Nat) : Int) := by rw [w64 (by omega) (by omega)]; omega
    have em : ((m + 1 : Nat) : Int) - 1 = (m : Int) := by omega
    simp only [impl_TimesDec.l1, e1, e2]
    rw [em]
    simp only [ba, bb, rd_at, Int.toNat_natCast]
    rw [w64 (x := (dg x).getD i 0 * (dg y).getD m 0) (by omega) (by omega), w64 (x := out.getD (i + m + 1) 0 + (dg x).getD i 0 * (dg y).getD m 0) (by omega) (by omega), Int.tmod_eq_emod_of_nonneg s0, Int.tdiv_eq_ediv_of_nonneg s0]
    generalize hs : out.getD (i + m + 1) 0 + (dg x).getD i 0 * (dg y).getD m 0 = s at *
    clear ba bb hab e1 e2 em h hi2 hR' ho'
    have w1 : wrap64 (s / 10) = s / 10 := w64 (by omega) (by omega)
    have w2 : wrap64 (out.getD (i + m) 0 + s / 10) = out.getD (i + m) 0 + s / 10 := w64 (by omega) (by omega)
    have w3 : wrap64 ((m : Int) - 1) = (m : Int) - 1 := w64 (by omega) (by omega)
    rw [if_pos q1, if_pos q2, if_pos q3, if_pos q4, if_pos q5, if_pos q6, if_pos q7]
    rw [Option.bind_some, if_pos q8, if_pos q9, getD_set _ _ _ _ q10, if_neg (show ¬ i + m + 1 = i + m by omega), w1, w2, w3]
    unfold stepI
    rw [hs]
theorem InvO_of_I {x y : ByteArray} {i : Nat} {out : List Int} (h : InvI x y i 0 out) : InvO x y i out := by
  obtain ⟨len, nn, le, top, low, zr, vl⟩ := h
  refine ⟨len, nn, fun j => ?_, fun j hj => zr j (Or.inl hj), ?_⟩
  · by_cases e : j = i
    · subst e; exact low rfl
    · exact le j (by omega)
  · rw [TT_zero, Int.mul_zero, Int.zero_add] at vl
    exact vl
theorem InvI_of_O {x y : ByteArray} {i : Nat} (hi : i < x.size) {out : List Int} (h : InvO x y (i + 1) out) : InvI x y i y.size out := by
  obtain ⟨len, nn, le, zr, vl⟩ := h
  have hxi : i < (dg x).length := by rw [dg_length]; exact hi
  refine ⟨len, nn, fun j _ => le j, by have := le (i + y.size); omega, fun _ => le i, fun j hj => zr j (by omega), ?_⟩
  have hf : TT (dg y) y.size = val (dg y) := by rw [← dg_length, TT_full]
  rw [hf, getD_at (dg x) i hxi]
  rw [TT_succ (dg x) i hxi, dg_length, Int.add_mul] at vl
  omega
theorem impl_l0_ev (x y : ByteArray) (hx : allD x = true) (hy : allD y = true) (hxs : x.size ≤ 60) (hys : y.size ≤ 60) (na nb : Bool) (sa sb : Int) : ∀ (i : Nat) (out : List Int), i ≤ x.size → InvO x y i out → ∃ out', InvO x y 0 out' ∧ ∀ R, Ev (fun k => (impl_made.f k (na != nb) (strOfNums (out'.map (48 + ·))) (wrap64 (sa + sb))).bind fun bt150 => (some (bt150.1, bt150.2.1, bt150.2.2.1, bt150.2.2.2))) R → Ev (fun k => impl_TimesDec.l0 k out ((i : Int) - 1) na x sa nb y sb) R
  | 0, out, _, h => ⟨out, h, fun R hR => by
      refine Ev.step (fun k => ?_) hR
      have ht : impl_TimesDec.text out = some (strOfNums (out.map (48 + ·))) := by
        unfold impl_TimesDec.text
        rw [if_pos (by have := h.len; omega)]
        congr 2
        apply List.map_congr_left
        intro z hz
        obtain ⟨j, hj, rfl⟩ := List.getElem_of_mem hz
        have a := h.nn j
        have b := h.le j
        rw [getD_at out j hj] at a b
        omega
      simp only [impl_TimesDec.l0]
      rw [if_neg (by omega), ht, Option.bind_some]⟩
  | i + 1, out, hi, h => by
    obtain ⟨o1, h1, hR1⟩ := impl_l1_ev x y hx hy hxs hys na nb sa sb i (by omega) y.size out (Nat.le_refl _) (InvI_of_O (by omega) h)
    obtain ⟨o2, h2, hR2⟩ := impl_l0_ev x y hx hy hxs hys na nb sa sb i o1 (by omega) (InvO_of_I h1)
    refine ⟨o2, h2, fun R hR => Ev.step (fun k => ?_) (hR1 R (hR2 R hR))⟩
    simp only [impl_TimesDec.l0]
    rw [if_pos (by omega), w64 (by omega) (by omega), show ((i + 1 : Nat) : Int) - 1 = (i : Int) by omega]
theorem InvO_digs {x y : ByteArray} {out : List Int} (h : InvO x y 0 out) : digsI out ∧ out.length = x.size + y.size ∧ val out = val (dg x) * val (dg y) := by
  refine ⟨?_, h.len, ?_⟩
  · intro z hz
    obtain ⟨j, hj, rfl⟩ := List.getElem_of_mem hz
    have a := h.nn j
    have b := h.le j
    rw [getD_at out j hj] at a b
    exact ⟨a, b⟩
  · have := h.vl
    rw [TT_zero, Int.zero_mul, Int.add_zero] at this
    exact this
theorem getD_rep (n j : Nat) : (List.replicate n (0 : Int)).getD j 0 = 0 := by
  rw [List.getD_eq_getElem?_getD, List.getElem?_replicate]
  split <;> rfl
theorem impl_product (x y : ByteArray) (hx : allD x = true) (hy : allD y = true) (hxs : x.size ≤ 60) (hys : y.size ≤ 60) (na nb : Bool) (sa sb : Int) (h0 : -100 ≤ sa + sb) (h1 : sa + sb ≤ 1000) : ∃ out, digsI out ∧ out.length = x.size + y.size ∧ val out = val (dg x) * val (dg y) ∧ Ev (fun k => impl_TimesDec.j0 k false na x sa nb y sb) (normF (na != nb) (strOfNums (out.map (48 + ·))).size (strOfNums (out.map (48 + ·))) (sa + sb)) := by
  have hst : InvO x y x.size (List.replicate (x.size + y.size) 0) := by
    refine ⟨List.length_replicate, fun j => by rw [getD_rep]; omega, fun j => by rw [getD_rep]; omega, fun j _ => getD_rep _ _, ?_⟩
    have hf : TT (dg x) x.size = val (dg x) := by rw [← dg_length, TT_full]
    rw [val_zeros, hf, Int.zero_add]
  obtain ⟨out, ho, hR⟩ := impl_l0_ev x y hx hy hxs hys na nb sa sb x.size _ (Nat.le_refl _) hst
  obtain ⟨d1, d2, d3⟩ := InvO_digs ho
  refine ⟨out, d1, d2, d3, ?_⟩
  refine Ev.step (fun k => ?_) (hR _ ?_)
  · simp only [impl_TimesDec.j0, Bool.false_eq_true, if_false]
    rw [w64 (x := (x.size : Int) + (y.size : Int)) (by omega) (by omega), w64 (x := (x.size : Int) - 1) (by omega) (by omega), if_pos (by omega), show ((x.size : Int) + (y.size : Int)).toNat = x.size + y.size by omega, if_pos (by omega)]
  · have hsz : (strOfNums (out.map (48 + ·))).size = out.length := by rw [← data_length, strOfNums_data, List.length_map, List.length_map]
    rw [w64 (x := sa + sb) (by omega) (by omega)]
    refine Ev.bind (impl_made_ev (na != nb) _ (sa + sb) (by rw [hsz]; omega) (by omega) (by omega)) ?_
    exact Ev.now _
end Go.Proofs.YtaliphegdclkfaaDoor.PZ
