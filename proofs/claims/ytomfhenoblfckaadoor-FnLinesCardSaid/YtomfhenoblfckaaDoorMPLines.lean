/- Ends of lines: the two replacements, and the reference's own walk. -/
import Derived.Test.YtomfhenoblfckaaDoorPMx1
import Derived.Test.YtomfhenoblfckaaDoorMPBase
import Derived.Test.YtomfhenoblfckaaDoorMPReplace
import Derived.Test.YtomfhenoblfckaaDoorMPBytes
namespace Go.Proofs.YtomfhenoblfckaaDoor.PM
open Go.RowKit Go.Proofs.YtomfhenoblfckaaDoorW.PrintWords
set_option linter.unusedVariables false
set_option linter.unusedSimpArgs false
def lineL : List UInt8 → List UInt8
  | [] => []
  | b :: l => if b = 13 then (if l.head? = some 10 then lineL l else 10 :: lineL l) else b :: lineL l
def lineI : List Int → List Int
  | [] => []
  | b :: l => if b = 13 then (if l.head? = some 10 then lineI l else 10 :: lineI l) else b :: lineI l
theorem u8_nat (b : UInt8) (n : Nat) (h : n < 256) : ((b.toNat : Int) = (n : Int)) ↔ b = UInt8.ofNat n := by
  constructor
  · intro e
    have : b.toNat = n := by omega
    apply UInt8.toNat_inj.1
    rw [this, UInt8.toNat_ofNat']
    omega
  · rintro rfl
    rw [UInt8.toNat_ofNat']
    omega
theorem lineI_map : ∀ l : List UInt8, lineI (l.map fun b => (b.toNat : Int)) = (lineL l).map fun b => (b.toNat : Int)
  | [] => rfl
  | b :: l => by
    have ih := lineI_map l
    rw [List.map_cons, lineI, lineL]
    have h1 : ((b.toNat : Int) = 13) ↔ b = 13 := u8_nat b 13 (by decide)
    have h2 : ((l.map fun b => (b.toNat : Int)).head? = some 10) ↔ l.head? = some 10 := by
      cases l with
      | nil => simp
      | cons c l => simpa using u8_nat c 10 (by decide)
    by_cases c : b = 13
    · rw [if_pos c, if_pos (h1.2 c)]
      by_cases d : l.head? = some 10
      · rw [if_pos d, if_pos (h2.2 d), ih]
      · rw [if_neg d, if_neg (fun e => d (h2.1 e)), ih]
        rfl
    · rw [if_neg c, if_neg (fun e => c (h1.1 e)), ih]
      rfl
theorem lineL_both : ∀ (k : Nat) (s : List UInt8), s.length ≤ k → Lib.replaceAll (Lib.replaceAll s [13, 10] [10]) [13] [10] = lineL s := by
  intro k
  induction k with
  | zero =>
    intro s hs
    obtain rfl : s = [] := List.length_eq_zero_iff.1 (by omega)
    rw [ra_nil (old := [13, 10]) (by decide) (by decide), ra_nil (old := [13]) (by decide) (by decide)]
    rfl
  | succ k ih =>
    intro s hs
    cases s with
    | nil => rw [ra_nil (old := [13, 10]) (by decide) (by decide), ra_nil (old := [13]) (by decide) (by decide)]; rfl
    | cons b l =>
      simp only [List.length_cons] at hs
      by_cases hb : b = 13
      · subst hb
        by_cases hl : l.head? = some 10
        · obtain ⟨l, rfl⟩ : ∃ t, l = 10 :: t := by
            cases l with
            | nil => simp at hl
            | cons c l => exact ⟨l, by simp at hl; rw [hl]⟩
          simp only [List.length_cons] at hs
          rw [ra_hit (s := 13 :: 10 :: l) (old := [13, 10]) (by decide) (by decide) (by simp [List.isPrefixOf])]
          simp only [List.length_cons, List.length_nil, List.drop_succ_cons, List.drop_zero, List.singleton_append]
          rw [ra_miss (b := 10) (old := [13]) (by decide) (by decide) (by simp [List.isPrefixOf]), ih l (by omega)]
          simp [lineL]
        · rw [ra_miss (b := 13) (l := l) (old := [13, 10]) (by decide) (by decide) (by
            intro h
            cases l with
            | nil => simp [List.isPrefixOf] at h
            | cons c l => simp [List.isPrefixOf] at h; exact hl (by simp [h]))]
          rw [ra_hit (old := [13]) (by decide) (by decide) (by simp [List.isPrefixOf])]
          simp only [List.length_cons, List.length_nil, List.drop_succ_cons, List.drop_zero, List.singleton_append]
          rw [ih l (by omega), lineL, if_pos rfl, if_neg hl]
      · have hb' : ¬ (13 : UInt8) = b := fun e => hb e.symm
        rw [ra_miss (b := b) (l := l) (old := [13, 10]) (by decide) (by decide) (by simp [List.isPrefixOf, hb']), ra_miss (b := b) (old := [13]) (by decide) (by decide) (by simp [List.isPrefixOf, hb']), ih l (by omega), lineL, if_neg hb]
theorem lineI_length : ∀ l : List Int, (lineI l).length ≤ l.length
  | [] => Nat.le_refl _
  | b :: l => by
    have := lineI_length l
    rw [lineI]
    repeat' split
    all_goals (simp only [List.length_cons]; omega)
theorem spec_Lines_l0 (x0 : ByteArray) (hs : x0.size ≤ 1048576) : ∀ (m n : Nat) (x3 : List Int), n + m = x0.size → x3.length ≤ n → Ev (fun k => spec_Lines.l0 k x0 x3 (n : Int)) (strOfNums (x3 ++ lineI ((bytesOf x0).drop n))) := by
  intro m
  induction m with
  | zero =>
    intro n x3 hn hl
    refine Ev.later fun k => ?_
    rw [spec_Lines.l0, if_neg (cast_nlt (by omega)), bytes_drop_end x0 n (by omega), lineI, List.append_nil]
  | succ m ih =>
    intro n x3 hn hl
    have hw : wrap64 ((n : Int) + 1) = ((n + 1 : Nat) : Int) := by rw [w64 (by omega) (by omega)]; rfl
    refine Ev.step (f := fun k => if bt x0 n = 13 then (if ((n + 1 : Nat) : Int) = (x0.size : Int) then spec_Lines.l0 k x0 (x3 ++ [10]) ((n + 1 : Nat) : Int) else (if bt x0 ((n + 1 : Nat) : Int) = 10 then spec_Lines.l0 k x0 x3 ((n + 1 : Nat) : Int) else spec_Lines.l0 k x0 (x3 ++ [10]) ((n + 1 : Nat) : Int))) else spec_Lines.l0 k x0 (x3 ++ [bt x0 n]) ((n + 1 : Nat) : Int)) (fun k => ?_) ?_
    · conv => lhs; unfold spec_Lines.l0
      rw [if_pos (cast_lt (by omega)), if_pos (by omega), hw]
      by_cases c : bt x0 n = 13
      · rw [if_pos c, if_pos c]
        by_cases d : ((n + 1 : Nat) : Int) = (x0.size : Int)
        · rw [if_pos d, if_pos d, if_pos (by omega)]
        · rw [if_neg d, if_neg d, if_pos (by omega), if_pos (by omega), if_pos (show x3.length < 140737488355328 by omega)]
      · rw [if_neg c, if_neg c, if_pos (by omega)]
    · rw [bytes_drop x0 n (by omega), lineI]
      by_cases c : bt x0 n = 13
      · simp only [if_pos c]
        by_cases d : ((n + 1 : Nat) : Int) = (x0.size : Int)
        · simp only [if_pos d]
          have e := ih (n + 1) (x3 ++ [10]) (by omega) (by simp; omega)
          rw [bytes_drop_end x0 (n + 1) (by omega)] at e ⊢
          simp only [List.head?_nil, reduceCtorEq, if_false]
          simpa using e
        · simp only [if_neg d]
          by_cases f : bt x0 ((n + 1 : Nat) : Int) = 10
          · simp only [if_pos f]
            rw [if_pos (by rw [bytes_drop x0 (n + 1) (by omega), f]; rfl)]
            exact ih (n + 1) x3 (by omega) (by omega)
          · simp only [if_neg f]
            rw [if_neg (by rw [bytes_drop x0 (n + 1) (by omega)]; simpa using f)]
            have e := ih (n + 1) (x3 ++ [10]) (by omega) (by simp; omega)
            simpa using e
      · simp only [if_neg c]
        have e := ih (n + 1) (x3 ++ [bt x0 n]) (by omega) (by simp; omega)
        simpa using e
def lineB (s : ByteArray) : ByteArray := ⟨(lineL s.data.toList).toArray⟩
theorem strOfNums_lineI (x0 : ByteArray) : strOfNums (lineI (bytesOf x0)) = lineB x0 := by
  apply bytes_ext
  unfold lineB
  rw [strOfNums_data]
  unfold bytesOf
  rw [lineI_map, List.map_map]
  conv => rhs; rw [← List.map_id (lineL x0.data.toList)]
  apply List.map_congr_left
  intro b _
  simp only [Function.comp, id]
  apply UInt8.toNat_inj.1
  have := b.toNat_lt
  simp only [UInt8.toNat_ofNat']
  omega
theorem spec_Lines_ev (x0 : ByteArray) (hs : x0.size ≤ 1048576) : Ev (fun k => spec_Lines.f k x0) (lineB x0) := by
  have h := spec_Lines_l0 x0 hs x0.size 0 [] (by omega) (by simp)
  rw [List.drop_zero, List.nil_append, strOfNums_lineI] at h
  exact h
theorem impl_Lines_eq (x0 : ByteArray) (hs : x0.size ≤ 1048576) : impl_Lines.f x0 = some (lineB x0) := by
  have c1 := Lib.countB_le (⟨#[13, 10]⟩ : ByteArray) (by decide) x0.size x0 (Nat.le_refl _)
  have hlen : (Lib.replaceAll x0.data.toList [13, 10] [10]).length ≤ x0.data.toList.length := ra_length (by decide) (by decide) (by decide) _ _ (Nat.le_refl _)
  rw [data_length] at hlen
  unfold impl_Lines.f strings_ReplaceAll.f
  rw [if_pos (⟨by omega, by decide, by simp only [show (⟨#[10]⟩ : ByteArray).size = 1 from rfl]; omega⟩)]
  rw [Option.bind_some]
  have e1 : (⟨#[13, 10]⟩ : ByteArray).data.toList = [13, 10] := rfl
  have e2 : (⟨#[10]⟩ : ByteArray).data.toList = [10] := rfl
  have e3 : (⟨#[13]⟩ : ByteArray).data.toList = [13] := rfl
  have hsz : (⟨(Lib.replaceAll x0.data.toList [13, 10] [10]).toArray⟩ : ByteArray).size ≤ 1048576 := by
    show ((Lib.replaceAll x0.data.toList [13, 10] [10]).toArray).size ≤ 1048576
    rw [List.size_toArray]
    omega
  have c2 := Lib.countB_le (⟨#[13]⟩ : ByteArray) (by decide) _ (⟨(Lib.replaceAll x0.data.toList [13, 10] [10]).toArray⟩ : ByteArray) (Nat.le_refl _)
  simp only [e1, e2]
  rw [if_pos (⟨by omega, by decide, by simp only [show (⟨#[10]⟩ : ByteArray).size = 1 from rfl]; omega⟩), Option.bind_some]
  show some (⟨(Lib.replaceAll (Lib.replaceAll x0.data.toList [13, 10] [10]) [13] [10]).toArray⟩ : ByteArray) = _
  rw [lineL_both _ _ (Nat.le_refl _)]
  rfl
end Go.Proofs.YtomfhenoblfckaaDoor.PM
