/- The parts of a date's text: the reference's numbers and the program's come to the same. -/
import Derived.Test.YtdfopjmokbcnlaaDoorPRx1
import Derived.Test.YtdfopjmokbcnlaaDoorPRx3
import Derived.Test.YtdfopjmokbcnlaaDoorPRx4
import Derived.Test.YtdfopjmokbcnlaaDoorRPBase
import Derived.Test.YtdfopjmokbcnlaaDoorRPIn
import Derived.Test.YtdfopjmokbcnlaaDoorRPDigits
import Derived.Test.YtdfopjmokbcnlaaDoorRPDateOk
import Derived.Lib.ParseIntBCases
import Derived.Lib.Strings
namespace Go.Proofs.YtdfopjmokbcnlaaDoor.PR
open Go.RowKit Go.Proofs.YtdfopjmokbcnlaaDoorW.PrintWords Go.Proofs.YtdfopjmokbcnlaaDoorW.PrintMore
set_option linter.unusedVariables false
set_option linter.unusedSimpArgs false
def digs (s : ByteArray) : Nat → Nat → Bool
  | 0, _ => true
  | n + 1, a => digB (bt s (a : Int)) && digs s n (a + 1)
def valN (s : ByteArray) : Nat → Nat → Int → Int
  | 0, _, acc => acc
  | n + 1, a, acc => valN s n (a + 1) (acc * 10 + (bt s (a : Int) - 48))
def prt (s : ByteArray) (a n : Nat) : Int := if a + n ≤ s.size ∧ digs s n a = true then valN s n a 0 else -1
theorem bt_u8 (s : ByteArray) (i : Nat) (h : i < s.size) : ∃ b : UInt8, s.data.toList[i]? = some b ∧ bt s (i : Int) = (b.toNat : Int) := by
  have h2 : i < s.data.toList.length := by rw [data_length]; exact h
  refine ⟨s.data.toList[i], List.getElem?_eq_getElem h2, ?_⟩
  rw [← rd_bytesOf]
  unfold rd bytesOf
  simp [List.getD_eq_getElem?_getD, h]
theorem ext_list (s : ByteArray) (a b : Nat) : (s.extract a b).data.toList = (s.data.toList.take b).drop a := by
  rw [Lib.extract_data, List.drop_take]
theorem slice_all (s : ByteArray) : ∀ n a, a + n ≤ s.size → ((s.data.toList.drop a).take n).map (fun b : UInt8 => (b.toNat : Int)) = (List.range n).map fun j => bt s ((a + j : Nat) : Int)
  | 0, _, _ => by simp
  | n + 1, a, h => by
    have ih := slice_all s n (a + 1) (by omega)
    have h2 : a < s.data.toList.length := by rw [data_length]; omega
    obtain ⟨b, hb, e⟩ := bt_u8 s a (by omega)
    rw [List.getElem?_eq_getElem h2] at hb
    obtain rfl := Option.some.inj hb
    rw [List.drop_eq_getElem_cons h2, List.take_succ_cons, List.map_cons, ih, List.range_succ_eq_map, List.map_cons, List.map_map]
    rw [show a + 0 = a from rfl, e]
    congr 1
    apply List.map_congr_left
    intro j _
    simp only [Function.comp, Nat.succ_eq_add_one]
    rw [show a + 1 + j = a + (j + 1) by omega]
theorem digs_range (s : ByteArray) : ∀ n a, digs s n a = ((List.range n).map fun j => bt s ((a + j : Nat) : Int)).all digB
  | 0, _ => rfl
  | n + 1, a => by
    rw [digs, digs_range s n (a + 1), List.range_succ_eq_map, List.map_cons, List.all_cons, List.map_map, Nat.add_zero]
    congr 2
    apply List.map_congr_left
    intro j _
    simp only [Function.comp, Nat.succ_eq_add_one]
    rw [show a + 1 + j = a + (j + 1) by omega]
theorem allD_extract (s : ByteArray) (a n : Nat) (h : a + n ≤ s.size) : allD (s.extract a (a + n)) = digs s n a := by
  unfold allD bytesOf
  rw [ext_list, List.drop_take, show a + n - a = n by omega, slice_all s n a h, digs_range]
theorem digs_at (s : ByteArray) : ∀ n a, digs s n a = true → ∀ j, j < n → 48 ≤ bt s ((a + j : Nat) : Int) ∧ bt s ((a + j : Nat) : Int) ≤ 57
  | 0, _, _, j, h => by omega
  | n + 1, a, h, j, hj => by
    rw [digs, Bool.and_eq_true] at h
    cases j with
    | zero =>
      have := h.1
      unfold digB at this
      simpa using this
    | succ j =>
      have := digs_at s n (a + 1) h.2 j (by omega)
      rw [show a + (j + 1) = a + 1 + j by omega]
      exact this
theorem pow3 {i : Nat} (h : i ≤ 3) : (10 : Int) ^ i ≤ 1000 ∧ (0 : Int) < 10 ^ i := by
  rcases (show i = 0 ∨ i = 1 ∨ i = 2 ∨ i = 3 by omega) with rfl | rfl | rfl | rfl <;> decide
theorem spec_Part_l0_ev (s : ByteArray) (hs : s.size ≤ 2000000) (a n : Nat) (hn : a + n ≤ s.size) (hn4 : n ≤ 4) (hd : digs s n a = true) : ∀ d i (acc : Int), i + d = n → 0 ≤ acc → acc < 10 ^ i → Ev (fun k => spec_l5Part.l0 k s (a : Int) (n : Int) acc ((a + i : Nat) : Int)) (valN s d (a + i) acc) := by
  intro d
  induction d with
  | zero =>
    intro i acc hi h0 _
    refine Ev.later fun k => ?_
    simp only [spec_l5Part.l0]
    rw [w64 (x := (a : Int) + (n : Int)) (by omega) (by omega), if_neg (by omega)]
    rfl
  | succ d ih =>
    intro i acc hi h0 h1
    have hb := digs_at s n a hd i (by omega)
    have hp := pow3 (i := i) (by omega)
    have e10 : (10 : Int) ^ (i + 1) = 10 ^ i * 10 := Int.pow_succ ..
    have h := ih (i + 1) (acc * 10 + (bt s ((a + i : Nat) : Int) - 48)) (by omega) (by omega) (by rw [e10]; omega)
    rw [valN]
    refine Ev.step (fun k => ?_) h
    simp only [spec_l5Part.l0]
    rw [w64 (x := (a : Int) + (n : Int)) (by omega) (by omega), if_pos (by omega), if_pos (by omega), if_pos (by omega), show (bt s ((a + i : Nat) : Int) - 48) % 256 = bt s ((a + i : Nat) : Int) - 48 by omega, w64 (x := acc * 10) (by omega) (by omega), w64 (x := acc * 10 + (bt s ((a + i : Nat) : Int) - 48)) (by omega) (by omega), w64 (x := ((a + i : Nat) : Int) + 1) (by omega) (by omega)]
    rfl
theorem valN_range (s : ByteArray) : ∀ n a i (acc : Int), digs s n a = true → 0 ≤ acc → acc < 10 ^ i → i + n ≤ 4 → 0 ≤ valN s n a acc ∧ valN s n a acc ≤ 9999
  | 0, a, i, acc, _, h0, h1, hi => by
    rw [valN]
    have : (10 : Int) ^ i ≤ 10000 := by rcases (show i = 0 ∨ i = 1 ∨ i = 2 ∨ i = 3 ∨ i = 4 by omega) with rfl | rfl | rfl | rfl | rfl <;> decide
    omega
  | n + 1, a, i, acc, hd, h0, h1, hi => by
    have hb := digs_at s (n + 1) a hd 0 (by omega)
    rw [Nat.add_zero] at hb
    rw [digs, Bool.and_eq_true] at hd
    have hp := pow3 (i := i) (by omega)
    have e10 : (10 : Int) ^ (i + 1) = 10 ^ i * 10 := Int.pow_succ ..
    rw [valN]
    exact valN_range s n (a + 1) (i + 1) _ hd.2 (by omega) (by rw [e10]; omega) (by omega)
theorem prt_range (s : ByteArray) (a n : Nat) (hn : n ≤ 4) : -1 ≤ prt s a n ∧ prt s a n ≤ 9999 := by
  unfold prt
  split
  · rename_i h
    have := valN_range s n a 0 0 h.2 (by omega) (by decide) (by omega)
    omega
  · omega
theorem spec_Part_ev (s : ByteArray) (hs : s.size ≤ 2000000) (a n : Nat) (ha : a ≤ 1000) (hn4 : n ≤ 4) : Ev (fun k => spec_l5Part.f k s (a : Int) (n : Int)) (prt s a n) := by
  unfold spec_l5Part.f prt
  rw [w64 (x := (a : Int) + (n : Int)) (by omega) (by omega)]
  have bad : Ev (fun k => spec_l5Part.j0 k s (a : Int) (n : Int) true) (-1) := Ev.later fun k => by simp only [spec_l5Part.j0, if_true]
  by_cases c : (s.size : Int) < (a : Int) + (n : Int)
  · simp only [c, if_true]
    rw [if_neg (by omega)]
    exact bad
  · have q1 : (0 : Int) ≤ (a : Int) := by omega
    have q2 : (a : Int) ≤ (a : Int) + (n : Int) := by omega
    have q3 : (a : Int) + (n : Int) ≤ (s.size : Int) := by omega
    simp only [c, if_false, q1, q2, q3, if_true]
    rw [show ((a : Int)).toNat = a by omega, show ((a : Int) + (n : Int)).toNat = a + n by omega]
    refine Ev.bind (spec_l4Digits_ev _ (by rw [ByteArray.size_extract]; omega)) ?_
    rw [allD_extract s a n (by omega)]
    cases hd : digs s n a with
    | false =>
      rw [if_neg (fun h => by cases h.2)]
      exact bad
    | true =>
      rw [if_pos ⟨by omega, rfl⟩]
      have h := spec_Part_l0_ev s hs a n (by omega) hn4 hd n 0 0 (by omega) (by omega) (by decide)
      refine Ev.step (fun k => ?_) h
      simp only [spec_l5Part.j0, Bool.not_true, Bool.false_eq_true, if_false]
      rfl
theorem parse_step (acc : Nat) (c : UInt8) (r : List UInt8) (h : 48 ≤ c.toNat ∧ c.toNat ≤ 57) (ha : acc ≤ 1000000) : Lib.parseUintM (2 ^ 64 - 1) acc (c :: r) = Lib.parseUintM (2 ^ 64 - 1) (acc * 10 + (c.toNat - 48)) r := by
  rw [Lib.parseUintM, if_pos h, if_neg (by omega), if_neg (by omega)]
theorem parse_list (s : ByteArray) : ∀ n a (acc i : Nat), a + n ≤ s.size → digs s n a = true → acc < 10 ^ i → i + n ≤ 4 → ∃ u : Nat, Lib.parseUintM (2 ^ 64 - 1) acc ((s.data.toList.drop a).take n) = .ok u ∧ (u : Int) = valN s n a (acc : Int)
  | 0, a, acc, i, _, _, _, _ => ⟨acc, by simp [Lib.parseUintM], rfl⟩
  | n + 1, a, acc, i, hn, hd, ha, hi => by
    have hb := digs_at s (n + 1) a hd 0 (by omega)
    rw [Nat.add_zero] at hb
    rw [digs, Bool.and_eq_true] at hd
    have h2 : a < s.data.toList.length := by rw [data_length]; omega
    obtain ⟨b, hbs, e⟩ := bt_u8 s a (by omega)
    rw [List.getElem?_eq_getElem h2] at hbs
    obtain rfl := Option.some.inj hbs
    have hp : 10 ^ i ≤ 1000 := by rcases (show i = 0 ∨ i = 1 ∨ i = 2 ∨ i = 3 by omega) with rfl | rfl | rfl | rfl <;> decide
    have e10 : 10 ^ (i + 1) = 10 ^ i * 10 := Nat.pow_succ ..
    obtain ⟨u, hu, eu⟩ := parse_list s n (a + 1) (acc * 10 + (s.data.toList[a].toNat - 48)) (i + 1) (by omega) hd.2 (by rw [e10]; omega) (by omega)
    refine ⟨u, ?_, ?_⟩
    · rw [List.drop_eq_getElem_cons h2, List.take_succ_cons, parse_step _ _ _ (by omega) (by omega)]
      exact hu
    · rw [eu, valN, e]
      congr 1
      omega
theorem impl_num_eq (s : ByteArray) (hs : s.size ≤ 2000000) (a n : Nat) (ha : a ≤ 1000) (h1 : 1 ≤ n) (hn4 : n ≤ 4) : impl_numberAt.f s (a : Int) ((a + n : Nat) : Int) = some (if prt s a n = -1 then (0, false) else (prt s a n, true)) := by
  unfold impl_numberAt.f
  by_cases c : ((a + n : Nat) : Int) > (s.size : Int)
  · rw [if_pos c]
    have : prt s a n = -1 := by unfold prt; rw [if_neg (by omega)]
    rw [this, if_pos rfl]
  · rw [if_neg c, if_pos ⟨⟨by omega, by omega⟩, by omega⟩, Int.toNat_natCast, Int.toNat_natCast, impl_isDigits_eq _ (by rw [ByteArray.size_extract]; omega), Option.bind_some, allD_extract s a n (by omega)]
    cases hd : digs s n a with
    | false =>
      have : prt s a n = -1 := by unfold prt; rw [hd, if_neg (fun h => by cases h.2)]
      rw [this, if_pos rfl, if_neg (by decide)]
    | true =>
      have hv := valN_range s n a 0 0 hd (by omega) (by decide) (by omega)
      have : prt s a n = valN s n a 0 := by unfold prt; rw [hd, if_pos ⟨by omega, rfl⟩]
      rw [this, if_pos rfl, if_neg (show ¬ valN s n a 0 = -1 by omega)]
      obtain ⟨u, hu, eu⟩ := parse_list s n a 0 0 (by omega) hd (by decide) (by omega)
      have hlist : (s.extract a (a + n)).data.toList = (s.data.toList.drop a).take n := by rw [ext_list, List.drop_take, show a + n - a = n by omega]
      have hb := digs_at s n a hd 0 (by omega)
      rw [Nat.add_zero] at hb
      have h2 : a < s.data.toList.length := by rw [data_length]; omega
      obtain ⟨b, hbs, e⟩ := bt_u8 s a (by omega)
      rw [List.getElem?_eq_getElem h2] at hbs
      obtain rfl := Option.some.inj hbs
      have hp : Lib.parseIntB 64 (s.extract a (a + n)).data.toList = .ok (u : Int) := by
        rw [hlist]
        obtain ⟨m, rfl⟩ : ∃ m, n = m + 1 := ⟨n - 1, by omega⟩
        rw [List.drop_eq_getElem_cons h2, List.take_succ_cons] at hu ⊢
        have hu9 : u ≤ 9999 := by have := hv.2; have e0 : (u : Int) = valN s (m + 1) a 0 := eu; omega
        rw [Lib.parseIntB_plain 64 _ _ (by omega) (by omega)]
        unfold Lib.parseUintB
        rw [if_neg (by simp), hu]
        unfold Lib.signlessC
        simp only []
        rw [if_neg (by omega)]
      rw [hp]
      have e0 : (u : Int) = valN s n a 0 := eu
      simp only [e0]
def zero9 : Int × Int × Int × Int × Int × Int × Bool × Int × Bool := (0, 0, 0, 0, 0, 0, false, 0, false)
/-- A zone's text: is there one, which, is it right. -/
def zoneT (r : ByteArray) : Bool × Int × Bool :=
  if r.toList = [] then (false, 0, true) else if r.toList = [90] then (true, 0, true)
  else if r.size = 6 ∧ (bt r 0 = 43 ∨ bt r 0 = 45) ∧ bt r 3 = 58 ∧ (0 ≤ prt r 1 2 ∧ prt r 1 2 ≤ 14) ∧ (0 ≤ prt r 4 2 ∧ prt r 4 2 ≤ 59) then (true, if bt r 0 = 45 then -(60 * prt r 1 2 + prt r 4 2) else 60 * prt r 1 2 + prt r 4 2, true) else (true, 0, false)
/-- What both come to behind the six numbers. -/
def dateT (y mo d h mi se : Int) (z : Bool × Int × Bool) : Int × Int × Int × Int × Int × Int × Bool × Int × Bool := if z.2.2 = true then (if dok y mo d h mi se z.1 z.2.1 = true then (y, mo, d, h, mi, se, z.1, z.2.1, true) else zero9) else zero9
def hv (p : Int) : Int := if p = -1 then 0 else p
def ho (p : Int) : Bool := decide (¬ p = -1)
theorem num_pair (p : Int) : (if p = -1 then ((0, false) : Int × Bool) else (p, true)) = (hv p, ho p) := by
  unfold hv ho
  by_cases h : p = -1
  · simp [h]
  · simp [h]
def zoneI (r : ByteArray) : Bool × Int × Bool :=
  if r.toList = [] then (false, 0, true) else if r.toList = [90] then (true, 0, true)
  else if r.size = 6 ∧ (bt r 0 = 43 ∨ bt r 0 = 45) ∧ bt r 3 = 58 then (true, (if bt r 0 = 45 then -(60 * hv (prt r 1 2) + hv (prt r 4 2)) else 60 * hv (prt r 1 2) + hv (prt r 4 2)), ho (prt r 1 2) && (ho (prt r 4 2) && (decide (hv (prt r 1 2) ≤ 14) && decide (hv (prt r 4 2) ≤ 59)))) else (false, 0, false)
theorem zone_same (r : ByteArray) : (zoneI r).2.2 = (zoneT r).2.2 ∧ ((zoneT r).2.2 = true → zoneI r = zoneT r) := by
  have g1 := prt_range r 1 2 (by omega)
  have g2 := prt_range r 4 2 (by omega)
  unfold zoneI zoneT
  by_cases c1 : r.toList = []
  · rw [if_pos c1, if_pos c1]; exact ⟨rfl, fun _ => rfl⟩
  rw [if_neg c1, if_neg c1]
  by_cases c2 : r.toList = [90]
  · rw [if_pos c2, if_pos c2]; exact ⟨rfl, fun _ => rfl⟩
  rw [if_neg c2, if_neg c2]
  by_cases c3 : r.size = 6 ∧ (bt r 0 = 43 ∨ bt r 0 = 45) ∧ bt r 3 = 58
  · rw [if_pos c3]
    by_cases c4 : (0 ≤ prt r 1 2 ∧ prt r 1 2 ≤ 14) ∧ (0 ≤ prt r 4 2 ∧ prt r 4 2 ≤ 59)
    · have cT : r.size = 6 ∧ (bt r 0 = 43 ∨ bt r 0 = 45) ∧ bt r 3 = 58 ∧ (0 ≤ prt r 1 2 ∧ prt r 1 2 ≤ 14) ∧ (0 ≤ prt r 4 2 ∧ prt r 4 2 ≤ 59) := ⟨c3.1, c3.2.1, c3.2.2, c4.1, c4.2⟩
      rw [if_pos cT]
      have e1 : hv (prt r 1 2) = prt r 1 2 := by unfold hv; rw [if_neg (by omega)]
      have e2 : hv (prt r 4 2) = prt r 4 2 := by unfold hv; rw [if_neg (by omega)]
      have e3 : ho (prt r 1 2) = true := by unfold ho; exact decide_eq_true (by omega)
      have e4 : ho (prt r 4 2) = true := by unfold ho; exact decide_eq_true (by omega)
      rw [e1, e2, e3, e4, decide_eq_true c4.1.2, decide_eq_true c4.2.2]
      exact ⟨rfl, fun _ => rfl⟩
    · have cT : ¬ (r.size = 6 ∧ (bt r 0 = 43 ∨ bt r 0 = 45) ∧ bt r 3 = 58 ∧ (0 ≤ prt r 1 2 ∧ prt r 1 2 ≤ 14) ∧ (0 ≤ prt r 4 2 ∧ prt r 4 2 ≤ 59)) := fun h => c4 h.2.2.2
      rw [if_neg cT]
      refine ⟨?_, fun h => by cases h⟩
      simp only []
      unfold hv ho
      by_cases a1 : prt r 1 2 = -1
      · simp [a1]
      · by_cases a2 : prt r 4 2 = -1
        · simp [a1, a2]
        · rw [if_neg a1, if_neg a2, decide_eq_true a1, decide_eq_true a2, Bool.true_and, Bool.true_and]
          by_cases b1 : prt r 1 2 ≤ 14
          · rw [decide_eq_true b1, decide_eq_false (by omega)]; rfl
          · rw [decide_eq_false b1]; rfl
  · have cT : ¬ (r.size = 6 ∧ (bt r 0 = 43 ∨ bt r 0 = 45) ∧ bt r 3 = 58 ∧ (0 ≤ prt r 1 2 ∧ prt r 1 2 ≤ 14) ∧ (0 ≤ prt r 4 2 ∧ prt r 4 2 ≤ 59)) := fun h => c3 ⟨h.1, h.2.1, h.2.2.1⟩
    rw [if_neg c3, if_neg cT]
    exact ⟨rfl, fun h => by cases h⟩
theorem date_same (y mo d h mi se : Int) (r : ByteArray) : dateT y mo d h mi se (zoneI r) = dateT y mo d h mi se (zoneT r) := by
  obtain ⟨h1, h2⟩ := zone_same r
  cases c : (zoneT r).2.2 with
  | true => rw [h2 c]
  | false =>
    unfold dateT
    rw [h1, c]
    rfl
theorem impl_Zone_ev (r : ByteArray) (hs : r.size ≤ 2000000) : Ev (fun k => impl_readZone.f k r) (zoneI r) := by
  have bad : Ev (fun k => impl_readZone.j0 k r true) (false, 0, false) := Ev.later fun k => by simp only [impl_readZone.j0, if_true]
  unfold impl_readZone.f zoneI
  by_cases c1 : r.toList = []
  · simp only [c1, if_true]
    exact Ev.now _
  simp only [c1, if_false]
  by_cases c2 : r.toList = [90]
  · simp only [c2, if_true]
    exact Ev.now _
  simp only [c2, if_false]
  by_cases c3 : r.size = 6
  · have c3i : (r.size : Int) = 6 := by omega
    have q0 : (0 : Int) < (r.size : Int) := by omega
    have q3 : (3 : Int) < (r.size : Int) := by omega
    have n1 := impl_num_eq r hs 1 2 (by omega) (by omega) (by omega)
    have n2 := impl_num_eq r hs 4 2 (by omega) (by omega) (by omega)
    rw [num_pair] at n1 n2
    have m1 : impl_numberAt.f r 1 3 = some (hv (prt r 1 2), ho (prt r 1 2)) := n1
    have m2 : impl_numberAt.f r 4 6 = some (hv (prt r 4 2), ho (prt r 4 2)) := n2
    have g1 := prt_range r 1 2 (by omega)
    have g2 := prt_range r 4 2 (by omega)
    have u1 : 0 ≤ hv (prt r 1 2) ∧ hv (prt r 1 2) ≤ 9999 := by unfold hv; split <;> omega
    have u2 : 0 ≤ hv (prt r 4 2) ∧ hv (prt r 4 2) ≤ 9999 := by unfold hv; split <;> omega
    have main : bt r 0 = 43 ∨ bt r 0 = 45 → Ev (fun k => impl_readZone.j0 k r (bt r 3 != 58)) (if r.size = 6 ∧ (bt r 0 = 43 ∨ bt r 0 = 45) ∧ bt r 3 = 58 then ((true, (if bt r 0 = 45 then -(60 * hv (prt r 1 2) + hv (prt r 4 2)) else 60 * hv (prt r 1 2) + hv (prt r 4 2)), ho (prt r 1 2) && (ho (prt r 4 2) && (decide (hv (prt r 1 2) ≤ 14) && decide (hv (prt r 4 2) ≤ 59)))) : Bool × Int × Bool) else (false, 0, false)) := by
      intro hb
      by_cases c58 : bt r 3 = 58
      · rw [if_pos ⟨c3, hb, c58⟩, show (bt r 3 != 58) = false from by rw [c58]; rfl]
        refine Ev.later fun k => ?_
        simp only [impl_readZone.j0, Bool.false_eq_true, if_false, m1, m2, Option.bind_some, q0, if_true]
        rw [w64 (x := 60 * hv (prt r 1 2)) (by omega) (by omega), w64 (x := 60 * hv (prt r 1 2) + hv (prt r 4 2)) (by omega) (by omega), w64 (x := -(60 * hv (prt r 1 2) + hv (prt r 4 2))) (by omega) (by omega)]
        by_cases c45 : bt r 0 = 45
        · rw [if_pos c45, if_pos c45]
          cases ho (prt r 1 2) <;> cases ho (prt r 4 2) <;> by_cases c14 : hv (prt r 1 2) ≤ 14 <;> simp [c14]
        · rw [if_neg c45, if_neg c45]
          cases ho (prt r 1 2) <;> cases ho (prt r 4 2) <;> by_cases c14 : hv (prt r 1 2) ≤ 14 <;> simp [c14]
      · rw [if_neg (fun h => c58 h.2.2), show (bt r 3 != 58) = true from bne_iff_ne.mpr c58]
        exact bad
    have hno : ¬ (bt r 0 = 43 ∨ bt r 0 = 45) → (if r.size = 6 ∧ (bt r 0 = 43 ∨ bt r 0 = 45) ∧ bt r 3 = 58 then ((true, (if bt r 0 = 45 then -(60 * hv (prt r 1 2) + hv (prt r 4 2)) else 60 * hv (prt r 1 2) + hv (prt r 4 2)), ho (prt r 1 2) && (ho (prt r 4 2) && (decide (hv (prt r 1 2) ≤ 14) && decide (hv (prt r 4 2) ≤ 59)))) : Bool × Int × Bool) else (false, 0, false)) = (false, 0, false) := fun h => if_neg (fun q => h q.2.1)
    generalize (if r.size = 6 ∧ (bt r 0 = 43 ∨ bt r 0 = 45) ∧ bt r 3 = 58 then ((true, (if bt r 0 = 45 then -(60 * hv (prt r 1 2) + hv (prt r 4 2)) else 60 * hv (prt r 1 2) + hv (prt r 4 2)), ho (prt r 1 2) && (ho (prt r 4 2) && (decide (hv (prt r 1 2) ≤ 14) && decide (hv (prt r 4 2) ≤ 59)))) : Bool × Int × Bool) else (false, 0, false)) = R at main hno ⊢
    simp only [c3i, if_true, show (0 : Int) < 6 by omega, show (3 : Int) < 6 by omega]
    by_cases a : bt r 0 = 43
    · simp only [a, if_true]
      exact main (Or.inl a)
    · simp only [a, if_false]
      by_cases b : bt r 0 = 45
      · simp only [b, if_true]
        exact main (Or.inr b)
      · simp only [b, if_false]
        rw [hno (fun h => h.elim a b)]
        exact bad
  · have c3i : ¬ (r.size : Int) = 6 := by omega
    simp only [c3i, if_false]
    rw [if_neg (fun h => c3 h.1)]
    exact bad
def P6 (s : ByteArray) : Prop := bt s 4 = 45 ∧ bt s 7 = 45 ∧ bt s 10 = 84 ∧ bt s 13 = 58 ∧ bt s 16 = 58
instance (s : ByteArray) : Decidable (P6 s) := by unfold P6; infer_instance
/-- What both come to. -/
def readT (s : ByteArray) : Int × Int × Int × Int × Int × Int × Bool × Int × Bool :=
  if s.size < 19 then zero9 else if P6 s then dateT (prt s 0 4) (prt s 5 2) (prt s 8 2) (prt s 11 2) (prt s 14 2) (prt s 17 2) (zoneT (s.extract 19 s.size)) else zero9
theorem dok_neg {y mo d h mi se : Int} {z : Bool} {zo : Int} (c : y = -1 ∨ mo = -1 ∨ d = -1 ∨ h = -1 ∨ mi = -1 ∨ se = -1) : ¬ dok y mo d h mi se z zo = true := by
  intro hd
  obtain ⟨h1, h2, h3, h4, h5, h6, _⟩ := dok_parts hd
  omega
theorem date_neg {y mo d h mi se : Int} (z : Bool × Int × Bool) (c : y = -1 ∨ mo = -1 ∨ d = -1 ∨ h = -1 ∨ mi = -1 ∨ se = -1) : dateT y mo d h mi se z = zero9 := by
  unfold dateT
  split
  · rw [if_neg (dok_neg c)]
  · rfl
section
variable (s : ByteArray)
theorem l1_go {k : Nat} {x4 : List Int} {x5 : Int} (i : Nat) (h : i < 19) (hf : bt (⟨#[48, 48, 48, 48, 45, 48, 48, 45, 48, 48, 84, 48, 48, 58, 48, 48, 58, 48, 48]⟩ : ByteArray) (i : Int) = 48) : impl_ReadDate.l1 (k + 1) s x4 x5 (i : Int) = impl_ReadDate.l1 k s x4 x5 ((i + 1 : Nat) : Int) := by
  simp only [impl_ReadDate.l1]
  rw [if_pos (by omega), if_pos (by omega), if_pos hf, w64 (x := (i : Int) + 1) (by omega) (by omega)]
  rfl
theorem l1_num (hs : s.size ≤ 2000000) {x4 : List Int} (hx : x4.length ≤ 100) (a n : Nat) (ha : a + n ≤ 19) (h1 : 1 ≤ n) (hn : n ≤ 4) (hf : a + n = 19 ∨ bt (⟨#[48, 48, 48, 48, 45, 48, 48, 45, 48, 48, 84, 48, 48, 58, 48, 48, 58, 48, 48]⟩ : ByteArray) ((a + n : Nat) : Int) ≠ 48) {R : Int × Int × Int × Int × Int × Int × Bool × Int × Bool}
    (hr : ¬ prt s a n = -1 → Ev (fun k => impl_ReadDate.l0 k s (x4 ++ [prt s a n]) ((a + n : Nat) : Int)) R) (hz : prt s a n = -1 → R = zero9) : Ev (fun k => impl_ReadDate.l1 k s x4 (a : Int) ((a + n : Nat) : Int)) R := by
  have hnum := impl_num_eq s hs a n (by omega) h1 hn
  have hw : wrap64 (wrap64 (((a + n : Nat) : Int) - 1) + 1) = ((a + n : Nat) : Int) := by rw [w64 (x := ((a + n : Nat) : Int) - 1) (by omega) (by omega), w64 (by omega) (by omega)]; omega
  have step : ∀ k, impl_ReadDate.l1 (k + 1) s x4 (a : Int) ((a + n : Nat) : Int) = (impl_numberAt.f s (a : Int) ((a + n : Nat) : Int)).bind fun bt149 => (if bt149.2 = true then (if x4.length < 17592186044416 then (impl_ReadDate.l0 k s (x4 ++ [bt149.1]) (wrap64 ((wrap64 (((a + n : Nat) : Int) - 1)) + 1))) else (none)) else (some (0, 0, 0, 0, 0, 0, false, 0, false))) := fun k => by
    simp only [impl_ReadDate.l1]
    by_cases q : a + n = 19
    · rw [if_neg (by omega)]
    · rw [if_pos (by omega), if_pos (by omega), if_neg (hf.resolve_left q)]
  have q : x4.length < 17592186044416 := by omega
  by_cases c : prt s a n = -1
  · rw [hz c]
    refine Ev.later fun k => ?_
    rw [step, hnum, if_pos c, Option.bind_some, if_neg (by decide)]
    rfl
  · refine Ev.step (fun k => ?_) (hr c)
    rw [step, hnum, if_neg c, Option.bind_some, if_pos rfl, if_pos q, hw]
theorem l0_num (a : Nat) (h : a < 19) (hf : bt (⟨#[48, 48, 48, 48, 45, 48, 48, 45, 48, 48, 84, 48, 48, 58, 48, 48, 58, 48, 48]⟩ : ByteArray) (a : Int) = 48) {x4 : List Int} {R : Int × Int × Int × Int × Int × Int × Bool × Int × Bool} (hr : Ev (fun k => impl_ReadDate.l1 k s x4 (a : Int) (a : Int)) R) : Ev (fun k => impl_ReadDate.l0 k s x4 (a : Int)) R := by
  refine Ev.step (fun k => ?_) hr
  simp only [impl_ReadDate.l0]
  rw [if_pos (by omega), if_pos (by omega), if_pos hf]
theorem l0_sep (a : Nat) (c : Int) (h : a < 19) (hz : 19 ≤ s.size) (hf : bt (⟨#[48, 48, 48, 48, 45, 48, 48, 45, 48, 48, 84, 48, 48, 58, 48, 48, 58, 48, 48]⟩ : ByteArray) (a : Int) = c) (hc : c ≠ 48) {x4 : List Int} {R : Int × Int × Int × Int × Int × Int × Bool × Int × Bool} (hr : bt s (a : Int) = c → Ev (fun k => impl_ReadDate.l0 k s x4 ((a + 1 : Nat) : Int)) R) (hn : ¬ bt s (a : Int) = c → R = zero9) : Ev (fun k => impl_ReadDate.l0 k s x4 (a : Int)) R := by
  by_cases e : bt s (a : Int) = c
  · refine Ev.step (fun k => ?_) (hr e)
    simp only [impl_ReadDate.l0]
    rw [if_pos (by omega), if_pos (by omega), hf, if_neg hc, if_pos (by omega), if_pos e, w64 (x := (a : Int) + 1) (by omega) (by omega)]
    rfl
  · rw [hn e]
    refine Ev.later fun k => ?_
    simp only [impl_ReadDate.l0]
    rw [if_pos (by omega), if_pos (by omega), hf, if_neg hc, if_pos (by omega), if_neg e]
    rfl
theorem l0_end (hs : s.size ≤ 2000000) (hz : 19 ≤ s.size) (y mo d h mi se : Int) : Ev (fun k => impl_ReadDate.l0 k s [y, mo, d, h, mi, se] ((19 : Nat) : Int)) (dateT y mo d h mi se (zoneT (s.extract 19 s.size))) := by
  rw [← date_same]
  refine Ev.step (f := fun k => (impl_readZone.f k (s.extract 19 s.size)).bind fun bt159 => (if bt159.2.2 = true then ((impl_DateOk.f y mo d h mi se bt159.1 bt159.2.1).bind fun t169 => (if t169 = true then (some (y, mo, d, h, mi, se, bt159.1, bt159.2.1, true)) else (some (0, 0, 0, 0, 0, 0, false, 0, false)))) else (some (0, 0, 0, 0, 0, 0, false, 0, false)))) (fun k => ?_) (Ev.bind (impl_Zone_ev _ (by rw [ByteArray.size_extract]; omega)) ?_)
  · simp only [impl_ReadDate.l0]
    rw [if_neg (by omega), if_pos (by omega)]
    rfl
  · unfold dateT
    by_cases c : (zoneI (s.extract 19 s.size)).2.2 = true
    · simp only [c, if_true, impl_DateOk_eq, Option.bind_some]
      by_cases e : dok y mo d h mi se (zoneI (s.extract 19 s.size)).1 (zoneI (s.extract 19 s.size)).2.1 = true
      · simp only [e, if_true]; exact Ev.now _
      · simp only [e, if_false]; exact Ev.now _
    · simp only [c, if_false]
      exact Ev.now _
end
end Go.Proofs.YtdfopjmokbcnlaaDoor.PR
