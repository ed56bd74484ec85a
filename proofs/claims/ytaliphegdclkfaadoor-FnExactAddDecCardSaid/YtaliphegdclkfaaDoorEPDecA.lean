/- Decimal numbers: sums and differences of rows of digits, by both. -/
import Derived.Test.YtaliphegdclkfaaDoorPEx3
import Derived.Test.YtaliphegdclkfaaDoorPEx4
import Derived.Test.YtaliphegdclkfaaDoorPEx5
import Derived.Test.YtaliphegdclkfaaDoorPEx6
import Derived.Test.YtaliphegdclkfaaDoorPEx7
import Derived.Test.YtaliphegdclkfaaDoorPEx8
import Derived.Test.YtaliphegdclkfaaDoorEPBase
import Derived.Test.YtaliphegdclkfaaDoorEPIn
import Derived.Test.YtaliphegdclkfaaDoorEPBytes
import Derived.Test.YtaliphegdclkfaaDoorEPDec
import Derived.Test.YtaliphegdclkfaaDoorEPDecN
import Derived.Test.YtaliphegdclkfaaDoorEPDecZ
import Derived.Test.YtaliphegdclkfaaDoorEPDecO
namespace Go.Proofs.YtaliphegdclkfaaDoor.PE
open Go.RowKit Go.Proofs.YtaliphegdclkfaaDoorW.PrintWords Go.Proofs.YtaliphegdclkfaaDoorW.PrintMore
set_option linter.unusedVariables false
set_option linter.unusedSimpArgs false
theorem allD_bt {s : ByteArray} (h : allD s = true) (i : Int) (h0 : 0 ≤ i) (h1 : i < (s.size : Int)) : 48 ≤ bt s i ∧ bt s i ≤ 57 := by
  unfold allD at h
  have hm : bt s i ∈ bytesOf s := by
    rw [← rd_bytesOf]
    have := rd_mem (bytesOf s) i.toNat (by rw [bytesOf_length]; omega)
    rw [show ((i.toNat : Nat) : Int) = i by omega] at this
    exact this
  have := List.all_eq_true.1 h _ hm
  unfold digB at this
  simpa using this
/-- The sum of the digits ahead of place n, a carry handed on, behind what is there. -/
def sumF (x y : ByteArray) : Nat → Int → List Int → List Int
  | 0, c, acc => (48 + c) :: acc
  | n + 1, c, acc => sumF x y n ((bt x n + bt y n - 96 + c) / 10) ((48 + (bt x n + bt y n - 96 + c) % 10) :: acc)
def subF (x y : ByteArray) : Nat → Int → List Int → List Int
  | 0, _, acc => acc
  | n + 1, c, acc => subF x y n (if bt x n - bt y n - c < 0 then 1 else 0) ((48 + (bt x n - bt y n - c + 10) % 10) :: acc)
theorem sumF_length (x y : ByteArray) : ∀ n c acc, (sumF x y n c acc).length = n + 1 + acc.length
  | 0, c, acc => by simp [sumF]; omega
  | n + 1, c, acc => by rw [sumF, sumF_length x y n]; simp; omega
theorem subF_length (x y : ByteArray) : ∀ n c acc, (subF x y n c acc).length = n + acc.length
  | 0, c, acc => by simp [subF]
  | n + 1, c, acc => by rw [subF, subF_length x y n]; simp; omega
theorem spec_Sum_l0_ev (x y : ByteArray) (hx : allD x = true) (hy : allD y = true) (hsz : y.size = x.size) (hs : x.size ≤ 1000) : ∀ (n : Nat) (c : Int) (acc : List Int), n ≤ x.size → 0 ≤ c → c ≤ 1 → acc.length ≤ 1000 - n → Ev (fun k => spec_l4Sum.l0 k x y acc c ((n : Int) - 1)) (strOfNums (sumF x y n c acc)) := by
  intro n
  induction n with
  | zero =>
    intro c acc _ h0 h1 hl
    refine Ev.later fun k => ?_
    simp only [spec_l4Sum.l0]
    rw [if_neg (by omega), Option.bind_some, if_pos (by simp; omega), w64 (x := 48 + c) (by omega) (by omega), show (48 + c) % 256 = 48 + c by omega]
    rfl
  | succ n ih =>
    intro c acc hn h0 h1 hl
    have e : (((n + 1 : Nat) : Int) - 1) = (n : Int) := by omega
    have b1 := allD_bt hx (n : Int) (by omega) (by omega)
    have b2 := allD_bt hy (n : Int) (by omega) (by omega)
    rw [e, sumF]
    refine Ev.step (fun k => ?_) (ih ((bt x n + bt y n - 96 + c) / 10) ((48 + (bt x n + bt y n - 96 + c) % 10) :: acc) (by omega) (by omega) (by omega) (by simp; omega))
    simp only [spec_l4Sum.l0]
    have w1 : wrap64 (((bt x n - 48) % 256 + (bt y n - 48) % 256) + c) = bt x n + bt y n - 96 + c := by rw [w64 (by omega) (by omega)]; omega
    rw [if_pos (by omega), if_pos (by omega), if_pos (by omega), if_pos (by omega), w1]
    have t1 : Int.tmod (bt x n + bt y n - 96 + c) 10 = (bt x n + bt y n - 96 + c) % 10 := Int.tmod_eq_emod_of_nonneg (by omega)
    have t2 : Int.tdiv (bt x n + bt y n - 96 + c) 10 = (bt x n + bt y n - 96 + c) / 10 := Int.tdiv_eq_ediv_of_nonneg (by omega)
    rw [t1, t2, w64 (x := 48 + (bt x n + bt y n - 96 + c) % 10) (by omega) (by omega), w64 (x := (bt x n + bt y n - 96 + c) / 10) (by omega) (by omega), w64 (x := (n : Int) - 1) (by omega) (by omega), show (48 + (bt x n + bt y n - 96 + c) % 10) % 256 = 48 + (bt x n + bt y n - 96 + c) % 10 by omega, Option.bind_some, if_pos (by simp; omega)]
    rfl
theorem rep_set (n : Nat) (acc : List Int) (v : Int) : (List.replicate (n + 1) 0 ++ acc).set n v = List.replicate n 0 ++ v :: acc := by
  rw [List.replicate_succ', List.append_assoc, List.set_append_right _ _ (by simp), List.length_replicate, Nat.sub_self]
  rfl
theorem impl_plus_l0_ev (x y : ByteArray) (hx : allD x = true) (hy : allD y = true) (hsz : y.size = x.size) (hs : x.size ≤ 1000) : ∀ (n : Nat) (c : Int) (acc : List Int), n ≤ x.size → 0 ≤ c → c ≤ 1 → acc.length ≤ 1000 - n → Ev (fun k => impl_plusDigits.l0 k x y (List.replicate (n + 1) 0 ++ acc) c ((n : Int) - 1)) (strOfNums (sumF x y n c acc)) := by
  intro n
  induction n with
  | zero =>
    intro c acc _ h0 h1 hl
    refine Ev.later fun k => ?_
    simp only [impl_plusDigits.l0]
    rw [if_neg (by omega), if_pos (by simp), show (48 + c) % 256 = 48 + c by omega]
    rfl
  | succ n ih =>
    intro c acc hn h0 h1 hl
    have e : (((n + 1 : Nat) : Int) - 1) = (n : Int) := by omega
    have b1 := allD_bt hx (n : Int) (by omega) (by omega)
    have b2 := allD_bt hy (n : Int) (by omega) (by omega)
    rw [e, sumF]
    refine Ev.step (fun k => ?_) (ih ((bt x n + bt y n - 96 + c) / 10) ((48 + (bt x n + bt y n - 96 + c) % 10) :: acc) (by omega) (by omega) (by omega) (by simp; omega))
    simp only [impl_plusDigits.l0]
    have w1 : (bt x n - 48 + bt y n - 48 + c) % 256 = bt x n + bt y n - 96 + c := by omega
    rw [if_pos (by omega), if_pos (by omega), if_pos (by omega), if_pos (by omega), w64 (x := (n : Int) + 1) (by omega) (by omega), if_pos (by omega), if_pos (by simp; omega), w1, show ((n : Int) + 1).toNat = n + 1 by omega, rep_set, w64 (x := (n : Int) - 1) (by omega) (by omega)]
theorem spec_Sum_ev (x y : ByteArray) (hx : allD x = true) (hy : allD y = true) (hsz : y.size = x.size) (hs : x.size ≤ 900) : Ev (fun k => spec_l4Sum.f k x y) (strOfNums (sumF x y x.size 0 [])) := by
  unfold spec_l4Sum.f
  rw [w64 (x := (x.size : Int) - 1) (by omega) (by omega)]
  exact spec_Sum_l0_ev x y hx hy hsz (by omega) x.size 0 [] (Nat.le_refl _) (by omega) (by omega) (by simp)
theorem impl_plus_ev (x y : ByteArray) (hx : allD x = true) (hy : allD y = true) (hsz : y.size = x.size) (hs : x.size ≤ 900) : Ev (fun k => impl_plusDigits.f k x y) (strOfNums (sumF x y x.size 0 [])) := by
  unfold impl_plusDigits.f
  have e : (((x.size : Int) + 1)).toNat = x.size + 1 := by omega
  have c1 : 0 ≤ (x.size : Int) + 1 := by omega
  have c2 : x.size + 1 ≤ 281474976710656 := by omega
  simp only [w64 (x := (x.size : Int) + 1) (by omega) (by omega), e, if_pos c1, if_pos c2, w64 (x := (x.size : Int) - 1) (by omega) (by omega)]
  have := impl_plus_l0_ev x y hx hy hsz (by omega) x.size 0 [] (Nat.le_refl _) (by omega) (by omega) (by simp)
  rw [List.append_nil] at this
  exact this
theorem spec_Less_l0_ev (x y : ByteArray) (hx : allD x = true) (hy : allD y = true) (hsz : y.size = x.size) (hs : x.size ≤ 1000) : ∀ (n : Nat) (c : Int) (acc : List Int), n ≤ x.size → 0 ≤ c → c ≤ 1 → acc.length ≤ 1000 - n → Ev (fun k => spec_l4Less.l0 k x y acc c ((n : Int) - 1)) (strOfNums (subF x y n c acc)) := by
  intro n
  induction n with
  | zero =>
    intro c acc _ h0 h1 hl
    refine Ev.later fun k => ?_
    simp only [spec_l4Less.l0]
    rw [if_neg (by omega)]
    rfl
  | succ n ih =>
    intro c acc hn h0 h1 hl
    have e : (((n + 1 : Nat) : Int) - 1) = (n : Int) := by omega
    have b1 := allD_bt hx (n : Int) (by omega) (by omega)
    have b2 := allD_bt hy (n : Int) (by omega) (by omega)
    rw [e, subF]
    have w1 : wrap64 (wrap64 (wrap64 (bt x n) - wrap64 (bt y n)) - c) = bt x n - bt y n - c := by
      rw [w64 (x := bt x n) (by omega) (by omega), w64 (x := bt y n) (by omega) (by omega), w64 (x := bt x n - bt y n) (by omega) (by omega), w64 (by omega) (by omega)]
    by_cases hc : bt x n - bt y n - c < 0
    · rw [if_pos hc]
      refine Ev.step (fun k => ?_) (ih 1 ((48 + (bt x n - bt y n - c + 10) % 10) :: acc) (by omega) (by omega) (by omega) (by simp; omega))
      simp only [spec_l4Less.l0]
      rw [if_pos (by omega), if_pos (by omega), if_pos (by omega), if_pos (by omega), w1, if_pos hc, w64 (x := bt x n - bt y n - c + 10) (by omega) (by omega), w64 (x := 48 + (bt x n - bt y n - c + 10)) (by omega) (by omega), w64 (x := (n : Int) - 1) (by omega) (by omega), show (48 + (bt x n - bt y n - c + 10)) % 256 = 48 + (bt x n - bt y n - c + 10) % 10 by omega, Option.bind_some, if_pos (by simp; omega)]
      rfl
    · rw [if_neg hc]
      refine Ev.step (fun k => ?_) (ih 0 ((48 + (bt x n - bt y n - c + 10) % 10) :: acc) (by omega) (by omega) (by omega) (by simp; omega))
      simp only [spec_l4Less.l0]
      rw [if_pos (by omega), if_pos (by omega), if_pos (by omega), if_pos (by omega), w1, if_neg hc, w64 (x := 48 + (bt x n - bt y n - c)) (by omega) (by omega), w64 (x := (n : Int) - 1) (by omega) (by omega), show (48 + (bt x n - bt y n - c)) % 256 = 48 + (bt x n - bt y n - c + 10) % 10 by omega, Option.bind_some, if_pos (by simp; omega)]
      rfl
theorem impl_minus_l0_ev (x y : ByteArray) (hx : allD x = true) (hy : allD y = true) (hsz : y.size = x.size) (hs : x.size ≤ 1000) : ∀ (n : Nat) (c : Int) (acc : List Int), n ≤ x.size → 0 ≤ c → c ≤ 1 → acc.length ≤ 1000 - n → Ev (fun k => impl_minusDigits.l0 k x y (List.replicate n 0 ++ acc) c ((n : Int) - 1)) (strOfNums (subF x y n c acc)) := by
  intro n
  induction n with
  | zero =>
    intro c acc _ h0 h1 hl
    refine Ev.later fun k => ?_
    simp only [impl_minusDigits.l0]
    rw [if_neg (by omega)]
    rfl
  | succ n ih =>
    intro c acc hn h0 h1 hl
    have e : (((n + 1 : Nat) : Int) - 1) = (n : Int) := by omega
    have b1 := allD_bt hx (n : Int) (by omega) (by omega)
    have b2 := allD_bt hy (n : Int) (by omega) (by omega)
    rw [e, subF]
    have w1 : (10 + bt x n - bt y n - c) % 256 = bt x n - bt y n - c + 10 := by omega
    have w2 : (1 - (bt x n - bt y n - c + 10) / 10) % 256 = if bt x n - bt y n - c < 0 then 1 else 0 := by split <;> omega
    refine Ev.step (fun k => ?_) (ih (if bt x n - bt y n - c < 0 then 1 else 0) ((48 + (bt x n - bt y n - c + 10) % 10) :: acc) (by omega) (by split <;> omega) (by split <;> omega) (by simp; omega))
    simp only [impl_minusDigits.l0]
    rw [if_pos (by omega), if_pos (by omega), if_pos (by omega), if_pos (by omega), if_pos (by simp; omega), w1, w2, Int.toNat_natCast, rep_set, w64 (x := (n : Int) - 1) (by omega) (by omega)]
theorem spec_Less_ev (x y : ByteArray) (hx : allD x = true) (hy : allD y = true) (hsz : y.size = x.size) (hs : x.size ≤ 900) : Ev (fun k => spec_l4Less.f k x y) (strOfNums (subF x y x.size 0 [])) := by
  unfold spec_l4Less.f
  rw [w64 (x := (x.size : Int) - 1) (by omega) (by omega)]
  exact spec_Less_l0_ev x y hx hy hsz (by omega) x.size 0 [] (Nat.le_refl _) (by omega) (by omega) (by simp)
theorem impl_minus_ev (x y : ByteArray) (hx : allD x = true) (hy : allD y = true) (hsz : y.size = x.size) (hs : x.size ≤ 900) : Ev (fun k => impl_minusDigits.f k x y) (strOfNums (subF x y x.size 0 [])) := by
  unfold impl_minusDigits.f
  have c1 : 0 ≤ (x.size : Int) := by omega
  have c2 : x.size ≤ 281474976710656 := by omega
  simp only [if_pos c1, Int.toNat_natCast, if_pos c2, w64 (x := (x.size : Int) - 1) (by omega) (by omega)]
  have := impl_minus_l0_ev x y hx hy hsz (by omega) x.size 0 [] (Nat.le_refl _) (by omega) (by omega) (by simp)
  rw [List.append_nil] at this
  exact this
/-! The digits of two numbers with one scale, equally long. -/
theorem zeros_back (n : Nat) (s : ByteArray) : (s ++ (⟨#[48]⟩ : ByteArray)) ++ zeros n = s ++ zeros (n + 1) := by
  apply bytes_ext
  rw [append_list, append_list, append_list, zeros_list, zeros_list, List.append_assoc]
  rfl
theorem zeros_nil' (s : ByteArray) : s ++ zeros 0 = s := by
  apply bytes_ext
  rw [append_list, zeros_list]
  exact List.append_nil _
theorem spec_Same_l3_ev (y : ByteArray) (x : ByteArray) (sc : Int) (hx : x.size ≤ 1000) : ∀ (d : Nat) (z : ByteArray), z.size + d = x.size ∨ (d = 0 ∧ x.size ≤ z.size) → Ev (fun k => spec_l4Same.l3 k x z sc) (x, zeros d ++ z, sc) := by
  intro d
  induction d with
  | zero =>
    intro z h
    rw [zeros_nil]
    refine Ev.later fun k => ?_
    simp only [spec_l4Same.l3]
    rw [if_neg (by omega)]
  | succ d ih =>
    intro z h
    have hz : ((⟨#[48]⟩ : ByteArray) ++ z).size = z.size + 1 := by
      rw [ByteArray.size_append]
      show 1 + z.size = z.size + 1
      omega
    rw [← zeros_next]
    refine Ev.step (fun k => ?_) (ih ((⟨#[48]⟩ : ByteArray) ++ z) (by rw [hz]; omega))
    simp only [spec_l4Same.l3]
    rw [if_pos (by omega), if_pos (by omega)]
theorem spec_Same_l2_ev (y : ByteArray) (sc : Int) (hy : y.size ≤ 1000) : ∀ (d : Nat) (x : ByteArray), x.size ≤ 1000 → (x.size + d = y.size ∨ (d = 0 ∧ y.size ≤ x.size)) → Ev (fun k => spec_l4Same.l2 k x y sc) (zeros d ++ x, zeros (x.size - y.size) ++ y, sc) := by
  intro d
  induction d with
  | zero =>
    intro x hx h
    rw [zeros_nil]
    refine Ev.step (f := fun k => spec_l4Same.l3 k x y sc) (fun k => ?_) (spec_Same_l3_ev y x sc hx (x.size - y.size) y (by omega))
    simp only [spec_l4Same.l2]
    rw [if_neg (by omega)]
  | succ d ih =>
    intro x hx h
    have hz : ((⟨#[48]⟩ : ByteArray) ++ x).size = x.size + 1 := by
      rw [ByteArray.size_append]
      show 1 + x.size = x.size + 1
      omega
    have e : zeros (x.size - y.size) = zeros (((⟨#[48]⟩ : ByteArray) ++ x).size - y.size) := by rw [hz, show x.size - y.size = 0 by omega, show x.size + 1 - y.size = 0 by omega]
    rw [← zeros_next, e]
    refine Ev.step (fun k => ?_) (ih ((⟨#[48]⟩ : ByteArray) ++ x) (by rw [hz]; omega) (by rw [hz]; omega))
    simp only [spec_l4Same.l2]
    rw [if_pos (by omega), if_pos (by omega)]
abbrev Same := ByteArray × ByteArray × Int
def levF (x y : ByteArray) (sc : Int) : Same := (zeros (y.size - x.size) ++ x, zeros (x.size - y.size) ++ y, sc)
theorem spec_Same_l1_ev (x : ByteArray) (sc : Int) (hx : x.size ≤ 500) (hs : sc ≤ 100) : ∀ (d : Nat) (y : ByteArray) (i : Int), 0 ≤ i → d = (sc - i).toNat → y.size + d ≤ 500 → Ev (fun k => spec_l4Same.l1 k x y sc i) (levF x (y ++ zeros d) sc) := by
  intro d
  induction d with
  | zero =>
    intro y i h0 hd hy
    rw [zeros_nil']
    refine Ev.step (f := fun k => spec_l4Same.l2 k x y sc) (fun k => ?_) (spec_Same_l2_ev y sc (by omega) (y.size - x.size) x (by omega) (by omega))
    simp only [spec_l4Same.l1]
    rw [if_neg (by omega)]
  | succ d ih =>
    intro y i h0 hd hy
    have hz : (y ++ (⟨#[48]⟩ : ByteArray)).size = y.size + 1 := ByteArray.size_append
    rw [← zeros_back]
    refine Ev.step (fun k => ?_) (ih (y ++ (⟨#[48]⟩ : ByteArray)) (i + 1) (by omega) (by omega) (by rw [hz]; omega))
    simp only [spec_l4Same.l1]
    rw [if_pos (by omega), if_pos (by omega), w64 (x := i + 1) (by omega) (by omega)]
theorem spec_Same_l0_ev (y : ByteArray) (sc j : Int) (b : Bool) (dg : ByteArray) (hs : sc ≤ 100) (hj : 0 ≤ j) (hy : y.size + (sc - j).toNat ≤ 500) : ∀ (d : Nat) (x : ByteArray) (i : Int), 0 ≤ i → d = (sc - i).toNat → x.size + d ≤ 500 → Ev (fun k => spec_l4Same.l0 k x y sc i b dg j) (levF (x ++ zeros d) (y ++ zeros (sc - j).toNat) sc) := by
  intro d
  induction d with
  | zero =>
    intro x i h0 hd hx
    rw [zeros_nil']
    refine Ev.step (f := fun k => spec_l4Same.l1 k x y sc j) (fun k => ?_) (spec_Same_l1_ev x sc (by omega) hs (sc - j).toNat y j hj rfl hy)
    simp only [spec_l4Same.l0]
    rw [if_neg (by omega)]
  | succ d ih =>
    intro x i h0 hd hx
    have hz : (x ++ (⟨#[48]⟩ : ByteArray)).size = x.size + 1 := ByteArray.size_append
    rw [← zeros_back]
    refine Ev.step (fun k => ?_) (ih (x ++ (⟨#[48]⟩ : ByteArray)) (i + 1) (by omega) (by omega) (by rw [hz]; omega))
    simp only [spec_l4Same.l0]
    rw [if_pos (by omega), if_pos (by omega), w64 (x := i + 1) (by omega) (by omega)]
def sameF (x : ByteArray) (i : Int) (y : ByteArray) (j : Int) : Same := levF (x ++ zeros (mx i j - i).toNat) (y ++ zeros (mx i j - j).toNat) (mx i j)
theorem spec_Same_ev (a : Bool) (x : ByteArray) (i : Int) (b : Bool) (y : ByteArray) (j : Int) (hx : x.size ≤ 60) (hy : y.size ≤ 60) (hi : 0 ≤ i) (hi2 : i ≤ 60) (hj : 0 ≤ j) (hj2 : j ≤ 60) : Ev (fun k => spec_l4Same.f k a x i b y j) (sameF x i y j) := by
  unfold spec_l4Same.f sameF
  have hm : mx i j ≤ 60 := by unfold mx; split <;> omega
  exact spec_Same_l0_ev y (mx i j) j b y (by omega) hj (by omega) _ x i hi rfl (by omega)
theorem impl_level_eq (a : Bool) (x : ByteArray) (i : Int) (b : Bool) (y : ByteArray) (j : Int) (hx : x.size ≤ 60) (hy : y.size ≤ 60) (hi : 0 ≤ i) (hi2 : i ≤ 60) (hj : 0 ≤ j) (hj2 : j ≤ 60) : impl_level.f a x i b y j = some (sameF x i y j) := by
  have hm : mx i j ≤ 60 ∧ i ≤ mx i j ∧ j ≤ mx i j := by unfold mx; split <;> omega
  unfold impl_level.f sameF
  rw [w64 (x := mx i j - i) (by omega) (by omega), w64 (x := mx i j - j) (by omega) (by omega), strings_Repeat_zeros _ (by omega) (by omega), Option.bind_some, zeros_size, if_pos (by omega), strings_Repeat_zeros _ (by omega) (by omega), Option.bind_some, zeros_size, if_pos (by omega)]
  generalize hu : x ++ zeros (mx i j - i).toNat = u
  generalize hv : y ++ zeros (mx i j - j).toNat = v
  have su : u.size = x.size + (mx i j - i).toNat := by rw [← hu, ByteArray.size_append, zeros_size]
  have sv : v.size = y.size + (mx i j - j).toNat := by rw [← hv, ByteArray.size_append, zeros_size]
  have hm2 : mx (u.size : Int) (v.size : Int) ≤ 200 ∧ (u.size : Int) ≤ mx (u.size : Int) (v.size : Int) ∧ (v.size : Int) ≤ mx (u.size : Int) (v.size : Int) := by unfold mx; split <;> omega
  have d1 : (mx (u.size : Int) (v.size : Int) - (u.size : Int)).toNat = v.size - u.size := by unfold mx; split <;> omega
  have d2 : (mx (u.size : Int) (v.size : Int) - (v.size : Int)).toNat = u.size - v.size := by unfold mx; split <;> omega
  rw [w64 (x := mx (u.size : Int) (v.size : Int) - (u.size : Int)) (by omega) (by omega), w64 (x := mx (u.size : Int) (v.size : Int) - (v.size : Int)) (by omega) (by omega), strings_Repeat_zeros _ (by omega) (by omega), Option.bind_some, d1, zeros_size, if_pos (by omega), strings_Repeat_zeros _ (by omega) (by omega), Option.bind_some, d2, zeros_size, if_pos (by omega)]
  rfl
theorem allD_append (a b : ByteArray) : allD (a ++ b) = (allD a && allD b) := by
  unfold allD
  rw [bytesOf_append, List.all_append]
theorem allD_zeros (n : Nat) : allD (zeros n) = true := by
  unfold allD bytesOf
  rw [zeros_list, List.map_replicate, List.all_replicate]
  cases n <;> rfl
theorem decOkF_allD {neg : Bool} {s : ByteArray} {sc : Int} (h : decOkF neg s sc = true) : allD s = true := by
  unfold decOkF at h
  by_cases h0 : s.size = 0
  · exact allD_empty h0
  · rw [if_neg h0] at h
    simp only [Bool.and_eq_true] at h
    exact h.2.1
def addF (a : Bool) (x : ByteArray) (i : Int) (b : Bool) (y : ByteArray) (j : Int) : DRes :=
  if decOkF a x i = true then (if decOkF b y j = true then
    (if (a == b) = true then normF a (strOfNums (sumF (sameF x i y j).1 (sameF x i y j).2.1 (sameF x i y j).1.size 0 [])).size (strOfNums (sumF (sameF x i y j).1 (sameF x i y j).2.1 (sameF x i y j).1.size 0 [])) (sameF x i y j).2.2
      else if Op.bytesLess (sameF x i y j).1.toList (sameF x i y j).2.1.toList = true then normF b (strOfNums (subF (sameF x i y j).2.1 (sameF x i y j).1 (sameF x i y j).2.1.size 0 [])).size (strOfNums (subF (sameF x i y j).2.1 (sameF x i y j).1 (sameF x i y j).2.1.size 0 [])) (sameF x i y j).2.2
      else normF a (strOfNums (subF (sameF x i y j).1 (sameF x i y j).2.1 (sameF x i y j).1.size 0 [])).size (strOfNums (subF (sameF x i y j).1 (sameF x i y j).2.1 (sameF x i y j).1.size 0 [])) (sameF x i y j).2.2) else noDec) else noDec
theorem same_facts {a : Bool} {x : ByteArray} {i : Int} {b : Bool} {y : ByteArray} {j : Int} (h1 : decOkF a x i = true) (h2 : decOkF b y j = true) : allD (sameF x i y j).1 = true ∧ allD (sameF x i y j).2.1 = true ∧ (sameF x i y j).2.1.size = (sameF x i y j).1.size ∧ (sameF x i y j).1.size ≤ 200 ∧ 0 ≤ (sameF x i y j).2.2 ∧ (sameF x i y j).2.2 ≤ 60 := by
  obtain ⟨r1, r2, r3⟩ := decOkF_range h1
  obtain ⟨q1, q2, q3⟩ := decOkF_range h2
  have hm : mx i j ≤ 60 ∧ i ≤ mx i j ∧ j ≤ mx i j := by unfold mx; split <;> omega
  unfold sameF levF
  refine ⟨by simp only [allD_append, allD_zeros, decOkF_allD h1, Bool.and_self], by simp only [allD_append, allD_zeros, decOkF_allD h2, Bool.and_self], ?_, ?_, ?_, ?_⟩
  all_goals (try simp only [ByteArray.size_append, zeros_size])
  all_goals omega
theorem spec_AddDec_ev (a : Bool) (x : ByteArray) (i : Int) (b : Bool) (y : ByteArray) (j : Int) (hx : x.size ≤ 140737488351232) (hy : y.size ≤ 140737488351232) : Ev (fun k => spec_AddDec.f k a x i b y j) (addF a x i b y j) := by
  have no : ∀ z, z = true → Ev (fun k => spec_AddDec.j0 k z a x i b y j) noDec := fun z hz => Ev.later fun k => by rw [hz]; simp only [spec_AddDec.j0, if_true]; rfl
  unfold spec_AddDec.f addF
  refine Ev.bind (spec_DecOk_ev a x i hx) ?_
  by_cases h1 : decOkF a x i = true
  rotate_left
  · simp only [h1, if_false]
    exact no _ rfl
  simp only [h1, if_true]
  refine Ev.bind (spec_DecOk_ev b y j hy) ?_
  by_cases h2 : decOkF b y j = true
  rotate_left
  · simp only [h2, if_false]
    exact no _ rfl
  simp only [h2, if_true]
  obtain ⟨f1, f2, f3, f4, f5, f6⟩ := same_facts h1 h2
  obtain ⟨r1, r2, r3⟩ := decOkF_range h1
  obtain ⟨q1, q2, q3⟩ := decOkF_range h2
  have hS := spec_Same_ev a x i b y j r1 q1 r2 r3 q2 q3
  generalize sameF x i y j = s at f1 f2 f3 f4 f5 f6 hS
  have z1 : (strOfNums (sumF s.1 s.2.1 s.1.size 0 [])).size ≤ 1000 := by rw [strOfNums_size, sumF_length]; simp; omega
  have z2 : (strOfNums (subF s.2.1 s.1 s.2.1.size 0 [])).size ≤ 1000 := by rw [strOfNums_size, subF_length]; simp; omega
  have z3 : (strOfNums (subF s.1 s.2.1 s.1.size 0 [])).size ≤ 1000 := by rw [strOfNums_size, subF_length]; simp; omega
  refine Ev.step (f := fun k => (spec_l4Same.f k a x i b y j).bind fun bt231 => (if (a == b) = true then ((spec_l4Sum.f k bt231.1 bt231.2.1).bind fun t234 => ((spec_l4Norm.f k a t234 bt231.2.2).bind fun bt235 => (some (bt235.1, bt235.2.1, bt235.2.2.1, bt235.2.2.2)))) else (if (Op.bytesLess bt231.1.toList bt231.2.1.toList) = true then ((spec_l4Less.f k bt231.2.1 bt231.1).bind fun t239 => ((spec_l4Norm.f k b t239 bt231.2.2).bind fun bt240 => (some (bt240.1, bt240.2.1, bt240.2.2.1, bt240.2.2.2)))) else ((spec_l4Less.f k bt231.1 bt231.2.1).bind fun t244 => ((spec_l4Norm.f k a t244 bt231.2.2).bind fun bt245 => (some (bt245.1, bt245.2.1, bt245.2.2.1, bt245.2.2.2))))))) (fun k => ?_) ?_
  · simp only [spec_AddDec.j0, Bool.not_true, Bool.false_eq_true, if_false]
  refine Ev.bind hS ?_
  by_cases e : (a == b) = true
  · simp only [e, if_true]
    refine Ev.bind (spec_Sum_ev s.1 s.2.1 f1 f2 f3 (by omega)) (Ev.bind (spec_Norm_ev a _ s.2.2 (by omega) (by omega) (by omega)) (Ev.now _))
  · simp only [e, if_false]
    by_cases l : Op.bytesLess s.1.toList s.2.1.toList = true
    · simp only [l, if_true]
      refine Ev.bind (spec_Less_ev s.2.1 s.1 f2 f1 f3.symm (by omega)) (Ev.bind (spec_Norm_ev b _ s.2.2 (by omega) (by omega) (by omega)) (Ev.now _))
    · simp only [l, if_false]
      refine Ev.bind (spec_Less_ev s.1 s.2.1 f1 f2 f3 (by omega)) (Ev.bind (spec_Norm_ev a _ s.2.2 (by omega) (by omega) (by omega)) (Ev.now _))
theorem impl_AddDec_ev (a : Bool) (x : ByteArray) (i : Int) (b : Bool) (y : ByteArray) (j : Int) (hx : x.size ≤ 140737488351232) (hy : y.size ≤ 140737488351232) : Ev (fun k => impl_AddDec.f k a x i b y j) (addF a x i b y j) := by
  have no : ∀ z, z = true → Ev (fun k => impl_AddDec.j0 k z a x i b y j) noDec := fun z hz => Ev.later fun k => by rw [hz]; simp only [impl_AddDec.j0, if_true]; rfl
  unfold impl_AddDec.f addF
  rw [impl_DecOk_eq a x i hx]
  simp only [Option.bind_some]
  by_cases h1 : decOkF a x i = true
  rotate_left
  · simp only [h1, if_false]
    exact no _ rfl
  simp only [h1, if_true]
  rw [impl_DecOk_eq b y j hy]
  simp only [Option.bind_some]
  by_cases h2 : decOkF b y j = true
  rotate_left
  · simp only [h2, if_false]
    exact no _ rfl
  simp only [h2, if_true]
  obtain ⟨f1, f2, f3, f4, f5, f6⟩ := same_facts h1 h2
  obtain ⟨r1, r2, r3⟩ := decOkF_range h1
  obtain ⟨q1, q2, q3⟩ := decOkF_range h2
  have hS := impl_level_eq a x i b y j r1 q1 r2 r3 q2 q3
  generalize sameF x i y j = s at f1 f2 f3 f4 f5 f6 hS
  have z1 : (strOfNums (sumF s.1 s.2.1 s.1.size 0 [])).size ≤ 1000 := by rw [strOfNums_size, sumF_length]; simp; omega
  have z2 : (strOfNums (subF s.2.1 s.1 s.2.1.size 0 [])).size ≤ 1000 := by rw [strOfNums_size, subF_length]; simp; omega
  have z3 : (strOfNums (subF s.1 s.2.1 s.1.size 0 [])).size ≤ 1000 := by rw [strOfNums_size, subF_length]; simp; omega
  refine Ev.step (f := fun k => if (a == b) = true then ((impl_plusDigits.f k s.1 s.2.1).bind fun t272 => ((impl_made.f k a t272 s.2.2).bind fun bt273 => (some (bt273.1, bt273.2.1, bt273.2.2.1, bt273.2.2.2)))) else (if (Op.bytesLess s.1.toList s.2.1.toList) = true then ((impl_minusDigits.f k s.2.1 s.1).bind fun t277 => ((impl_made.f k b t277 s.2.2).bind fun bt278 => (some (bt278.1, bt278.2.1, bt278.2.2.1, bt278.2.2.2)))) else ((impl_minusDigits.f k s.1 s.2.1).bind fun t282 => ((impl_made.f k a t282 s.2.2).bind fun bt283 => (some (bt283.1, bt283.2.1, bt283.2.2.1, bt283.2.2.2)))))) (fun k => ?_) ?_
  · simp only [impl_AddDec.j0, Bool.not_true, Bool.false_eq_true, if_false, hS, Option.bind_some]
  by_cases e : (a == b) = true
  · simp only [e, if_true]
    refine Ev.bind (impl_plus_ev s.1 s.2.1 f1 f2 f3 (by omega)) (Ev.bind (impl_made_ev a _ s.2.2 (by omega) (by omega) (by omega)) (Ev.now _))
  · simp only [e, if_false]
    by_cases l : Op.bytesLess s.1.toList s.2.1.toList = true
    · simp only [l, if_true]
      refine Ev.bind (impl_minus_ev s.2.1 s.1 f2 f1 f3.symm (by omega)) (Ev.bind (impl_made_ev b _ s.2.2 (by omega) (by omega) (by omega)) (Ev.now _))
    · simp only [l, if_false]
      refine Ev.bind (impl_minus_ev s.1 s.2.1 f1 f2 f3 (by omega)) (Ev.bind (impl_made_ev a _ s.2.2 (by omega) (by omega) (by omega)) (Ev.now _))
end Go.Proofs.YtaliphegdclkfaaDoor.PE
