/- Decimal numbers: the reference's product of rows of digits, and that both come to the same. -/
import Derived.Test.YtaliphegdclkfaaDoorPZx3
import Derived.Test.YtaliphegdclkfaaDoorPZx4
import Derived.Test.YtaliphegdclkfaaDoorPZx6
import Derived.Test.YtaliphegdclkfaaDoorZPBase
import Derived.Test.YtaliphegdclkfaaDoorZPIn
import Derived.Test.YtaliphegdclkfaaDoorZPBytes
import Derived.Test.YtaliphegdclkfaaDoorZPDec
import Derived.Test.YtaliphegdclkfaaDoorZPDecN
import Derived.Test.YtaliphegdclkfaaDoorZPVal
import Derived.Test.YtaliphegdclkfaaDoorZPNormZ
import Derived.Test.YtaliphegdclkfaaDoorZPTimesI
namespace Go.Proofs.YtaliphegdclkfaaDoor.PZ
open Go.RowKit Go.Proofs.YtaliphegdclkfaaDoorW.PrintWords Go.Proofs.YtaliphegdclkfaaDoorW.PrintMore
set_option linter.unusedVariables false
set_option linter.unusedSimpArgs false
structure InvS (x y : ByteArray) (i k : Nat) (c : List Int) : Prop where
  len : c.length = x.size + y.size + 1
  nn : ∀ j : Nat, 0 ≤ c.getD j 0
  le : ∀ j : Nat, c.getD j 0 ≤ 81 * ((i : Int) * 60 + k)
  vl : val c + (((dg x).getD i 0 * 10 ^ (x.size - (i + 1))) * val ((dg y).drop k) + val ((dg x).drop (i + 1)) * val (dg y)) = val (dg x) * val (dg y)
structure InvT (x y : ByteArray) (i : Nat) (c : List Int) : Prop where
  len : c.length = x.size + y.size + 1
  nn : ∀ j : Nat, 0 ≤ c.getD j 0
  le : ∀ j : Nat, c.getD j 0 ≤ 81 * ((i : Int) * 60)
  vl : val c + val ((dg x).drop i) * val (dg y) = val (dg x) * val (dg y)
theorem stepS_inv (x y : ByteArray) (hx : allD x = true) (hy : allD y = true) (i k : Nat) (hi : i < x.size) (hk : k < y.size) (c : List Int) (h : InvS x y i k c) :
    InvS x y i (k + 1) (c.set (i + k + 2) (c.getD (i + k + 2) 0 + (dg x).getD i 0 * (dg y).getD k 0)) := by
  obtain ⟨len, nn, le, vl⟩ := h
  have hxi : i < (dg x).length := by rw [dg_length]; exact hi
  have hyk : k < (dg y).length := by rw [dg_length]; exact hk
  have hab := prod_range (dg_range hx i hxi) (dg_range hy k hyk)
  rw [← getD_at (dg x) i hxi, ← getD_at (dg y) k hyk] at hab
  have hl : i + k + 2 < c.length := by omega
  have n1 := nn (i + k + 2)
  have l1 := le (i + k + 2)
  refine ⟨?_, ?_, ?_, ?_⟩
  · rw [List.length_set]; exact len
  · intro j
    rw [getD_set _ _ _ _ hl]
    split
    · omega
    · exact nn j
  · intro j
    rw [getD_set _ _ _ _ hl]
    have := le j
    split <;> omega
  · have hv := val_drop (dg y) k hyk
    rw [← getD_at (dg y) k hyk, dg_length] at hv
    have hPQ : (10 : Int) ^ (x.size - (i + 1)) * 10 ^ (y.size - (k + 1)) = 10 ^ (x.size + y.size + 1 - (i + k + 2 + 1)) := by
      rw [← Int.pow_add]
      congr 1
      omega
    rw [hv, Int.add_comm (_ * _) (val _), alg_pq, hPQ] at vl
    rw [val_set _ _ _ hl, ← getD_at c (i + k + 2) hl, len, show c.getD (i + k + 2) 0 + (dg x).getD i 0 * (dg y).getD k 0 - c.getD (i + k + 2) 0 = (dg x).getD i 0 * (dg y).getD k 0 by omega]
    omega
theorem InvS_of_T {x y : ByteArray} {i : Nat} (hi : i < x.size) {c : List Int} (h : InvT x y i c) : InvS x y i 0 c := by
  obtain ⟨len, nn, le, vl⟩ := h
  have hxi : i < (dg x).length := by rw [dg_length]; exact hi
  refine ⟨len, nn, fun j => by have := le j; omega, ?_⟩
  rw [List.drop_zero, getD_at (dg x) i hxi]
  rw [val_drop (dg x) i hxi, dg_length, Int.add_mul] at vl
  exact vl
theorem InvT_of_S {x y : ByteArray} {i : Nat} (hys : y.size ≤ 60) {c : List Int} (h : InvS x y i y.size c) : InvT x y (i + 1) c := by
  obtain ⟨len, nn, le, vl⟩ := h
  refine ⟨len, nn, fun j => by have := le j; omega, ?_⟩
  rw [List.drop_eq_nil_of_le (by rw [dg_length]; omega), show val [] = 0 from rfl, Int.mul_zero, Int.zero_add] at vl
  exact vl
theorem spec_l1_ev (x y : ByteArray) (hx : allD x = true) (hy : allD y = true) (hxs : x.size ≤ 60) (hys : y.size ≤ 60) (na nb : Bool) (sa sb : Int) (i : Nat) (hi : i < x.size) : ∀ (d k : Nat) (c : List Int), k + d = y.size → InvS x y i k c → ∃ c', InvT x y (i + 1) c' ∧ ∀ R, Ev (fun n => spec_TimesDec.l0 n c' ((i + 1 : Nat) : Int) na x sa nb y sb) R → Ev (fun n => spec_TimesDec.l1 n c (i : Int) (k : Int) na x sa nb y sb) R
  | 0, k, c, hd, h => by
    have hk : k = y.size := by omega
    subst hk
    refine ⟨c, InvT_of_S hys h, fun R hR => Ev.step (fun n => ?_) hR⟩
    simp only [spec_TimesDec.l1]
    rw [if_neg (cast_nlt (Nat.le_refl _)), w64 (by omega) (by omega)]
    rfl
  | d + 1, k, c, hd, h => by
    have len := h.len
    have q1 : (k : Int) < (y.size : Int) := by omega
    have q2 : (0 : Int) ≤ ((i + k + 2 : Nat) : Int) := by omega
    have q3 : ((i + k + 2 : Nat) : Int) < (c.length : Int) := by omega
    have q4 : (0 : Int) ≤ (i : Int) := by omega
    have q5 : (i : Int) < (x.size : Int) := by omega
    have q6 : (0 : Int) ≤ (k : Int) := by omega
    have e1 : wrap64 ((i : Int) + (k : Int)) = ((i + k : Nat) : Int) := by rw [w64 (by omega) (by omega)]; omega
    have e2 : wrap64 (((i + k : Nat) : Int) + 2) = ((i + k + 2 : Nat) : Int) := by rw [w64 (by omega) (by omega)]; omega
    have e3 : wrap64 ((k : Int) + 1) = ((k + 1 : Nat) : Int) := by rw [w64 (by omega) (by omega)]; omega
    have hxi : i < (dg x).length := by rw [dg_length]; exact hi
    have hyk : k < (dg y).length := by rw [dg_length]; omega
    have ba := bt_dg hx i hxi
    have bb := bt_dg hy k hyk
    rw [← getD_at (dg x) i hxi] at ba
    rw [← getD_at (dg y) k hyk] at bb
    have hab := prod_range (dg_range hx i hxi) (dg_range hy k hyk)
    rw [← getD_at (dg x) i hxi, ← getD_at (dg y) k hyk] at hab
    have n1 := h.nn (i + k + 2)
    have l1 := h.le (i + k + 2)
    have w1 : wrap64 ((dg x).getD i 0 * (dg y).getD k 0) = (dg x).getD i 0 * (dg y).getD k 0 := w64 (by omega) (by omega)
    have w2 : wrap64 (c.getD (i + k + 2) 0 + (dg x).getD i 0 * (dg y).getD k 0) = c.getD (i + k + 2) 0 + (dg x).getD i 0 * (dg y).getD k 0 := by
      clear ba bb e1 e2 e3 w1
      exact w64 (by omega) (by omega)
    obtain ⟨c', hc', hR'⟩ := spec_l1_ev x y hx hy hxs hys na nb sa sb i hi d (k + 1) _ (by omega) (stepS_inv x y hx hy i k hi (by omega) c h)
    refine ⟨c', hc', fun R hR => Ev.step (fun n => ?_) (hR' R hR)⟩
    simp only [spec_TimesDec.l1, e1, e2, e3]
    simp only [ba, bb, rd_at, Int.toNat_natCast]
    rw [if_pos q1, if_pos q2, if_pos q3, if_pos q4, if_pos q5, if_pos q6, w1, w2]
theorem spec_l0_ev (x y : ByteArray) (hx : allD x = true) (hy : allD y = true) (hxs : x.size ≤ 60) (hys : y.size ≤ 60) (na nb : Bool) (sa sb : Int) : ∀ (d i : Nat) (c : List Int), i + d = x.size → InvT x y i c → ∃ c', InvT x y x.size c' ∧ ∀ R, Ev (fun n => spec_TimesDec.l2 n c' (List.replicate (x.size + y.size + 1) 0) 0 (((x.size + y.size + 1 : Nat) : Int) - 1) na x sa nb y sb) R → Ev (fun n => spec_TimesDec.l0 n c (i : Int) na x sa nb y sb) R
  | 0, i, c, hd, h => by
    have hk : i = x.size := by omega
    subst hk
    have len := h.len
    refine ⟨c, h, fun R hR => Ev.step (fun n => ?_) hR⟩
    simp only [spec_TimesDec.l0]
    rw [if_neg (cast_nlt (Nat.le_refl _)), if_pos (show (0 : Int) ≤ (c.length : Int) by omega), if_pos (show ((c.length : Int)).toNat ≤ 281474976710656 by omega), len, Int.toNat_natCast, w64 (by omega) (by omega)]
  | d + 1, i, c, hd, h => by
    obtain ⟨c1, h1, hR1⟩ := spec_l1_ev x y hx hy hxs hys na nb sa sb i (by omega) y.size 0 c (by omega) (InvS_of_T (by omega) h)
    obtain ⟨c2, h2, hR2⟩ := spec_l0_ev x y hx hy hxs hys na nb sa sb d (i + 1) c1 (by omega) h1
    refine ⟨c2, h2, fun R hR => Ev.step (fun n => ?_) (hR1 R (hR2 R hR))⟩
    simp only [spec_TimesDec.l0]
    rw [if_pos (cast_lt (by omega))]
    rfl
theorem rep_set (n : Nat) (acc : List Int) (v : Int) : (List.replicate (n + 1) 0 ++ acc).set n v = List.replicate n 0 ++ v :: acc := by
  rw [List.replicate_succ', List.append_assoc, List.set_append_right _ _ (by simp), List.length_replicate, Nat.sub_self]
  rfl
theorem spec_l2_ev (x y : ByteArray) (na nb : Bool) (sa sb : Int) (c : List Int) (nn : ∀ j : Nat, 0 ≤ c.getD j 0) (le : ∀ j : Nat, c.getD j 0 ≤ 300000) (hlen : c.length ≤ 1000) : ∀ (m : Nat) (ds : List Int) (r : Int), m + ds.length = c.length → digsI ds → 0 ≤ r → r ≤ 40000 → val ds + r * 10 ^ ds.length = val (c.drop m) →
    ∃ es r', digsI es ∧ es.length = c.length ∧ 0 ≤ r' ∧ val es + r' * 10 ^ es.length = val c ∧ ∀ R, Ev (fun n => (spec_l4Norm.f n (na != nb) (strOfNums (es.map (48 + ·))) (wrap64 (sa + sb))).bind fun bt128 => (some (bt128.1, bt128.2.1, bt128.2.2.1, bt128.2.2.2))) R → Ev (fun n => spec_TimesDec.l2 n c (List.replicate m 0 ++ ds.map (48 + ·)) r ((m : Int) - 1) na x sa nb y sb) R
  | 0, ds, r, hm, hd, h0, h1, hv => by
    refine ⟨ds, r, hd, by omega, h0, by rw [hv, List.drop_zero], fun R hR => Ev.step (fun n => ?_) hR⟩
    simp only [spec_TimesDec.l2]
    rw [if_neg (by omega)]
    rfl
  | m + 1, ds, r, hm, hd, h0, h1, hv => by
    have hl : m < c.length := by omega
    have n1 := nn m
    have l1 := le m
    have q1 : (m : Int) ≥ 0 := by omega
    have q2 : (0 : Int) ≤ (m : Int) := by omega
    have q3 : (m : Int) < (c.length : Int) := by omega
    have q4 : (m : Int) < ((List.replicate (m + 1) (0 : Int) ++ ds.map (48 + ·)).length : Int) := by rw [List.length_append, List.length_replicate]; omega
    have em : ((m + 1 : Nat) : Int) - 1 = (m : Int) := by omega
    have e3 : wrap64 ((m : Int) - 1) = (m : Int) - 1 := w64 (by omega) (by omega)
    have hval := val_drop c m hl
    rw [← getD_at c m hl, show c.length - (m + 1) = ds.length by omega] at hval
    generalize he : c.getD m 0 = e at *
    have w1 : wrap64 (e + r) = e + r := w64 (by omega) (by omega)
    have t1 : Int.tmod (e + r) 10 = (e + r) % 10 := Int.tmod_eq_emod_of_nonneg (by omega)
    have t2 : Int.tdiv (e + r) 10 = (e + r) / 10 := Int.tdiv_eq_ediv_of_nonneg (by omega)
    have w2 : wrap64 ((e + r) / 10) = (e + r) / 10 := w64 (by omega) (by omega)
    have w3 : wrap64 (48 + (e + r) % 10) % 256 = 48 + (e + r) % 10 := by rw [w64 (by omega) (by omega)]; omega
    have hc := alg_carry (e + r) 0 (10 ^ ds.length)
    rw [Int.sub_zero, Int.sub_zero, Int.add_mul] at hc
    obtain ⟨es, r', k1, k2, k3, k4, kR⟩ := spec_l2_ev x y na nb sa sb c nn le hlen m ((e + r) % 10 :: ds) ((e + r) / 10) (by simp only [List.length_cons]; omega) (by
      intro z hz
      rcases List.mem_cons.1 hz with rfl | hz
      · omega
      · exact hd z hz) (by omega) (by omega) (by rw [val, List.length_cons, p10_succ, hval]; omega)
    refine ⟨es, r', k1, k2, k3, k4, fun R hR => Ev.step (fun n => ?_) (kR R hR)⟩
    simp only [spec_TimesDec.l2, em, rd_at, he, w1, t1, t2, w2, w3, e3, Int.toNat_natCast]
    rw [if_pos q1, if_pos q2, if_pos q3, if_pos q4, rep_set]
    rfl
theorem prod_lt {a b P Q : Int} (ha : 0 ≤ a ∧ a < P) (hb : 0 ≤ b ∧ b < Q) : 0 ≤ a * b ∧ a * b < P * Q := by
  have h1 : a * b ≤ a * Q := Int.mul_le_mul_of_nonneg_left (by omega) ha.1
  have h2 : a * Q < P * Q := Int.mul_lt_mul_of_pos_right ha.2 (by omega)
  have h3 : 0 ≤ a * b := Int.mul_nonneg ha.1 hb.1
  omega
theorem spec_product (x y : ByteArray) (hx : allD x = true) (hy : allD y = true) (hxs : x.size ≤ 60) (hys : y.size ≤ 60) (na nb : Bool) (sa sb : Int) (h0 : -100 ≤ sa + sb) (h1 : sa + sb ≤ 1000) : ∃ out, digsI out ∧ out.length = x.size + y.size ∧ val out = val (dg x) * val (dg y) ∧ Ev (fun k => spec_TimesDec.j0 k false na x sa nb y sb) (normF (na != nb) (strOfNums (out.map (48 + ·))).size (strOfNums (out.map (48 + ·))) (sa + sb)) := by
  have hst : InvT x y 0 (List.replicate (x.size + y.size + 1) 0) := by
    refine ⟨List.length_replicate, fun j => by rw [getD_rep]; omega, fun j => by rw [getD_rep]; omega, ?_⟩
    rw [val_zeros, List.drop_zero, Int.zero_add]
  obtain ⟨c, hc, hR⟩ := spec_l0_ev x y hx hy hxs hys na nb sa sb x.size 0 _ (by omega) hst
  have len := hc.len
  have vl := hc.vl
  rw [List.drop_eq_nil_of_le (by rw [dg_length]; omega), show val [] = 0 from rfl, Int.zero_mul, Int.add_zero] at vl
  obtain ⟨es, r, k1, k2, k3, k4, kR⟩ := spec_l2_ev x y na nb sa sb c hc.nn (fun j => by have := hc.le j; omega) (by omega) c.length [] 0 (by simp) (fun z hz => by cases hz) (by omega) (by omega) (by rw [List.drop_length]; simp [val])
  have hA := val_bound (dg x) (dg_digs hx)
  have hB := val_bound (dg y) (dg_digs hy)
  rw [dg_length] at hA hB
  have hP := prod_lt hA hB
  rw [← Int.pow_add, ← vl] at hP
  rw [k2, len, p10_succ] at k4
  cases es with
  | nil => simp at k2; omega
  | cons d0 out =>
    have hlo : out.length = x.size + y.size := by simp only [List.length_cons] at k2; omega
    have hd0 := k1 d0 List.mem_cons_self
    have hdo : digsI out := fun z hz => k1 z (List.mem_cons_of_mem _ hz)
    have hbo := val_bound out hdo
    rw [val, hlo] at k4
    rw [hlo] at hbo
    have hpos := p10_pos (x.size + y.size)
    have a1 : 0 ≤ d0 * 10 ^ (x.size + y.size) := Int.mul_nonneg hd0.1 (by omega)
    have hr0 : r = 0 := by
      rcases Int.lt_or_le 0 r with h | h
      · have := Int.mul_le_mul_of_nonneg_right (show 1 ≤ r by omega) (show (0 : Int) ≤ 10 ^ (x.size + y.size) * 10 by omega)
        omega
      · omega
    subst hr0
    rw [Int.zero_mul, Int.add_zero] at k4
    have hd1 : d0 = 0 := by
      rcases Int.lt_or_le 0 d0 with h | h
      · have := Int.mul_le_mul_of_nonneg_right (show 1 ≤ d0 by omega) (show (0 : Int) ≤ 10 ^ (x.size + y.size) by omega)
        omega
      · omega
    subst hd1
    rw [Int.zero_mul, Int.zero_add] at k4
    refine ⟨out, hdo, hlo, by rw [k4, vl], ?_⟩
    have hstr : strOfNums ((0 :: out).map (48 + ·)) = zro ++ strOfNums (out.map (48 + ·)) := by
      apply bytes_ext
      rw [zro_list, strOfNums_data, strOfNums_data]
      rfl
    have hsz : (strOfNums (out.map (48 + ·))).size = out.length := by rw [← data_length, strOfNums_data, List.length_map, List.length_map]
    refine Ev.step (fun k => ?_) (hR _ ?_)
    · simp only [spec_TimesDec.j0, Bool.false_eq_true, if_false]
      rw [w64 (x := (x.size : Int) + (y.size : Int)) (by omega) (by omega), w64 (x := (x.size : Int) + (y.size : Int) + 1) (by omega) (by omega), if_pos (by omega), show ((x.size : Int) + (y.size : Int) + 1).toNat = x.size + y.size + 1 by omega, if_pos (by omega)]
      rfl
    · have h2 := kR (normF (na != nb) (strOfNums (out.map (48 + ·))).size (strOfNums (out.map (48 + ·))) (sa + sb)) (by
        rw [hstr, w64 (x := sa + sb) (by omega) (by omega)]
        refine Ev.bind (spec_Norm_ev (na != nb) _ (sa + sb) (by rw [zro_size, hsz]; omega) (by omega) (by omega)) ?_
        rw [zro_size, normF_zro (na != nb) _ _ (sa + sb) rfl]
        exact Ev.now _)
      rw [len] at h2
      simpa using h2
theorem decOkF_allD {neg : Bool} {s : ByteArray} {sc : Int} (h : decOkF neg s sc = true) : allD s = true := by
  unfold decOkF at h
  by_cases h0 : s.size = 0
  · exact allD_empty h0
  · rw [if_neg h0] at h
    simp only [Bool.and_eq_true] at h
    exact h.2.1
theorem decOkF_range {neg : Bool} {s : ByteArray} {sc : Int} (h : decOkF neg s sc = true) : s.size ≤ 60 ∧ 0 ≤ sc ∧ sc ≤ 60 := by
  unfold decOkF at h
  by_cases h0 : s.size = 0
  · rw [if_pos h0] at h
    simp at h
    omega
  · rw [if_neg h0] at h
    simp only [Bool.and_eq_true, decide_eq_true_eq, inR_true] at h
    omega
theorem times_ev (a : Bool) (x : ByteArray) (i : Int) (b : Bool) (y : ByteArray) (j : Int) (hx : x.size ≤ 140737488351232) (hy : y.size ≤ 140737488351232) : ∃ r : DRes, Ev (fun k => spec_TimesDec.f k a x i b y j) r ∧ Ev (fun k => impl_TimesDec.f k a x i b y j) r := by
  have no1 : ∀ z, z = true → Ev (fun k => spec_TimesDec.j0 k z a x i b y j) noDec := fun z hz => Ev.later fun k => by rw [hz]; simp only [spec_TimesDec.j0, if_true]; rfl
  have no2 : ∀ z, z = true → Ev (fun k => impl_TimesDec.j0 k z a x i b y j) noDec := fun z hz => Ev.later fun k => by rw [hz]; simp only [impl_TimesDec.j0, if_true]; rfl
  by_cases h1 : decOkF a x i = true
  rotate_left
  · refine ⟨noDec, ?_, ?_⟩
    · unfold spec_TimesDec.f
      refine Ev.bind (spec_DecOk_ev a x i hx) ?_
      simp only [h1, if_false]
      exact no1 _ rfl
    · unfold impl_TimesDec.f
      simp only [impl_DecOk_eq a x i hx, Option.bind_some, h1, if_false]
      exact no2 _ rfl
  by_cases h2 : decOkF b y j = true
  rotate_left
  · have h2' : decOkF b y j = false := by simpa using h2
    refine ⟨noDec, ?_, ?_⟩
    · unfold spec_TimesDec.f
      refine Ev.bind (spec_DecOk_ev a x i hx) ?_
      simp only [h1, if_true]
      refine Ev.bind (spec_DecOk_ev b y j hy) ?_
      rw [h2']
      exact no1 _ rfl
    · unfold impl_TimesDec.f
      simp only [impl_DecOk_eq a x i hx, impl_DecOk_eq b y j hy, Option.bind_some, h1, if_true, h2']
      exact no2 _ rfl
  obtain ⟨r1, r2, r3⟩ := decOkF_range h1
  obtain ⟨q1, q2, q3⟩ := decOkF_range h2
  obtain ⟨o1, a1, a2, a3, e1⟩ := spec_product x y (decOkF_allD h1) (decOkF_allD h2) r1 q1 a b i j (by omega) (by omega)
  obtain ⟨o2, b1, b2, b3, e2⟩ := impl_product x y (decOkF_allD h1) (decOkF_allD h2) r1 q1 a b i j (by omega) (by omega)
  have ho : o1 = o2 := val_inj o1 o2 (by omega) a1 b1 (by rw [a3, b3])
  subst ho
  refine ⟨normF (a != b) (strOfNums (o1.map (48 + ·))).size (strOfNums (o1.map (48 + ·))) (i + j), ?_, ?_⟩
  · unfold spec_TimesDec.f
    refine Ev.bind (spec_DecOk_ev a x i hx) ?_
    simp only [h1, if_true]
    refine Ev.bind (spec_DecOk_ev b y j hy) ?_
    rw [h2]
    exact e1
  · unfold impl_TimesDec.f
    simp only [impl_DecOk_eq a x i hx, impl_DecOk_eq b y j hy, Option.bind_some, h1, if_true, h2]
    exact e2
end Go.Proofs.YtaliphegdclkfaaDoor.PZ
