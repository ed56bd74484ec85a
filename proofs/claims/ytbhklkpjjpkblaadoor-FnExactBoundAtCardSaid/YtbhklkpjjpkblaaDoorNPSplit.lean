import Derived.Test.YtbhklkpjjpkblaaDoorPNx4
import Derived.Test.YtbhklkpjjpkblaaDoorPNx5
import Derived.Test.YtbhklkpjjpkblaaDoorPNx8
import Derived.Test.YtbhklkpjjpkblaaDoorPNx9
import Derived.Test.YtbhklkpjjpkblaaDoorPNx10
import Derived.Test.YtbhklkpjjpkblaaDoorNPBase
import Derived.Test.YtbhklkpjjpkblaaDoorNPIn
import Derived.Test.YtbhklkpjjpkblaaDoorNPNames
namespace Go.Proofs.YtbhklkpjjpkblaaDoor.PN
open Go.RowKit Go.Proofs.YtbhklkpjjpkblaaDoorW.PrintWords
set_option linter.unusedVariables false
set_option linter.unusedSimpArgs false
/- Names with a prefix: what both Split come to. -/
/-- The place of the first colon, or -1. -/
def fc : List Int → Int
  | [] => -1
  | b :: l => if b = 58 then 0 else if fc l = -1 then -1 else fc l + 1
theorem fc_range : ∀ l : List Int, -1 ≤ fc l ∧ fc l < (l.length : Int)
  | [] => by simp [fc]
  | b :: l => by
    have := fc_range l
    simp only [fc, List.length_cons]
    repeat' split
    all_goals omega
theorem indexByte_fc : ∀ l : List UInt8, Lib.indexByte l 58 = fc (l.map fun b => (b.toNat : Int))
  | [] => rfl
  | b :: l => by
    have ih := indexByte_fc l
    simp only [Lib.indexByte, fc, List.map_cons, ih]
    by_cases c : b = 58
    · subst c
      rfl
    · have c2 : ¬ (b.toNat : Int) = 58 := by
        intro e
        apply c
        apply UInt8.toNat_inj.1
        have : b.toNat = 58 := by omega
        rw [this]
        rfl
      have c3 : (b == 58) = false := beq_eq_false_iff_ne.2 c
      rw [if_neg c2, c3]
      simp
def splitI (s : ByteArray) : Int := fc (bytesOf s)
def noName : ByteArray × ByteArray × Bool := ((⟨#[]⟩ : ByteArray), (⟨#[]⟩ : ByteArray), false)
def splitF (s : ByteArray) : ByteArray × ByteArray × Bool :=
  if splitI s < 0 then (if nameOk s = true then ((⟨#[]⟩ : ByteArray), s, true) else noName)
  else if nameOk (s.extract 0 (splitI s).toNat) = true then (if nameOk (s.extract (splitI s + 1).toNat s.size) = true then (s.extract 0 (splitI s).toNat, s.extract (splitI s + 1).toNat s.size, true) else noName) else noName
theorem size_le {s : ByteArray} {a b : Nat} (hs : s.size ≤ 140737488351232) : (s.extract a b).size ≤ 140737488351232 := by
  rw [ByteArray.size_extract]
  omega
theorem splitI_range (s : ByteArray) : -1 ≤ splitI s ∧ splitI s < (s.size : Int) := by
  have := fc_range (bytesOf s)
  rw [bytesOf_length] at this
  exact this
/-- The end of the reference's walk: the colon's place is known. -/
theorem spec_Split_end (s : ByteArray) (hs : s.size ≤ 140737488351232) (n : Int) : Ev (fun k => spec_Split.j1 k s (splitI s) n false) (splitF s) := by
  have hr := splitI_range s
  unfold splitF
  by_cases c : splitI s < 0
  · refine Ev.step (f := fun k => (spec_NameOk.f k s).bind fun t => if t = true then some ((⟨#[]⟩ : ByteArray), s, true) else some noName) (fun k => ?_) ?_
    · simp only [spec_Split.j1, Bool.false_eq_true, if_false, c, if_true]
      rfl
    · refine Ev.bind (spec_NameOk_ev s hs) ?_
      simp only [c, if_true]
      cases nameOk s <;> exact Ev.now _
  · have w1 : wrap64 (splitI s + 1) = splitI s + 1 := w64 (by omega) (by omega)
    refine Ev.step (f := fun k => (spec_NameOk.f k (s.extract 0 (splitI s).toNat)).bind fun t => if t = true then ((spec_NameOk.f k (s.extract (splitI s + 1).toNat s.size)).bind fun u => if u = true then some (s.extract 0 (splitI s).toNat, s.extract (splitI s + 1).toNat s.size, true) else some noName) else some noName) (fun k => ?_) ?_
    · simp only [spec_Split.j1, Bool.false_eq_true, if_false, c, w1]
      rw [if_pos (show 0 ≤ splitI s by omega), if_pos (show splitI s ≤ (s.size : Int) by omega)]
      simp only [show (0 : Int) ≤ splitI s + 1 by omega, show splitI s + 1 ≤ (s.size : Int) by omega, if_true]
      rfl
    · refine Ev.bind (spec_NameOk_ev _ (size_le hs)) ?_
      simp only [c, if_false]
      cases nameOk (s.extract 0 (splitI s).toNat)
      · exact Ev.now _
      · simp only [if_true]
        refine Ev.bind (spec_NameOk_ev _ (size_le hs)) ?_
        cases nameOk (s.extract (splitI s + 1).toNat s.size) <;> exact Ev.now _
theorem spec_Split_found (s : ByteArray) (hs : s.size ≤ 140737488351232) (n : Int) (h : 0 ≤ splitI s) : Ev (fun k => spec_Split.l0 k s (splitI s) n) (splitF s) := by
  refine Ev.step (f := fun k => spec_Split.j1 k s (splitI s) n false) (fun k => ?_) (spec_Split_end s hs n)
  simp only [spec_Split.l0]
  rw [decide_eq_false (by omega)]
  split <;> rfl
theorem spec_Split_l0_ev (s : ByteArray) (hs : s.size ≤ 140737488351232) : ∀ (d n : Nat), n + d = s.size → ((fc ((bytesOf s).drop n) = -1 ∧ splitI s = -1) ∨ (0 ≤ fc ((bytesOf s).drop n) ∧ splitI s = fc ((bytesOf s).drop n) + n)) → Ev (fun k => spec_Split.l0 k s (-1) (n : Int)) (splitF s) := by
  intro d
  induction d with
  | zero =>
    intro n hn hi
    rw [bytes_drop_end s n (by omega)] at hi
    have hi2 : splitI s = -1 := by
      rcases hi with ⟨_, h⟩ | ⟨h, _⟩
      · exact h
      · exact absurd h (by decide)
    refine Ev.step (f := fun k => spec_Split.j1 k s (-1) (n : Int) false) (fun k => ?_) ?_
    · simp only [spec_Split.l0]
      rw [if_neg (cast_nlt (by omega))]
    · have := spec_Split_end s hs (n : Int)
      rw [hi2] at this
      exact this
  | succ d ih =>
    intro n hn hi
    have hfc : fc ((bytesOf s).drop n) = if bt s (n : Int) = 58 then 0 else if fc ((bytesOf s).drop (n + 1)) = -1 then -1 else fc ((bytesOf s).drop (n + 1)) + 1 := by
      rw [bytes_drop s n (by omega)]
      rfl
    by_cases c : bt s (n : Int) = 58
    · rw [if_pos c] at hfc
      have hi2 : splitI s = (n : Int) := by omega
      refine Ev.step (f := fun k => spec_Split.j1 k s (-1) (n : Int) true) (fun k => ?_) ?_
      · simp only [spec_Split.l0]
        rw [if_pos (cast_lt (by omega))]
        rfl
      · refine Ev.step (f := fun k => spec_Split.l0 k s (splitI s) ((n + 1 : Nat) : Int)) (fun k => ?_) (spec_Split_found s hs _ (by omega))
        simp only [spec_Split.j1, if_true]
        rw [if_pos (show (0 : Int) ≤ (n : Int) by omega), if_pos (cast_lt (by omega)), if_pos c, wrap_succ (n := s.size) (by omega) (cast_lt (by omega)) (by omega), hi2]
        rfl
    · rw [if_neg c] at hfc
      have next := ih (n + 1) (by omega) (by
        have := fc_range ((bytesOf s).drop (n + 1))
        by_cases e : fc ((bytesOf s).drop (n + 1)) = -1
        · rw [if_pos e] at hfc
          exact .inl ⟨e, by omega⟩
        · rw [if_neg e] at hfc
          exact .inr ⟨by omega, by omega⟩)
      refine Ev.step (f := fun k => spec_Split.j1 k s (-1) (n : Int) true) (fun k => ?_) ?_
      · simp only [spec_Split.l0]
        rw [if_pos (cast_lt (by omega))]
        rfl
      · refine Ev.step (f := fun k => spec_Split.l0 k s (-1) ((n + 1 : Nat) : Int)) (fun k => ?_) next
        simp only [spec_Split.j1, if_true]
        rw [if_pos (show (0 : Int) ≤ (n : Int) by omega), if_pos (cast_lt (by omega)), if_neg c, wrap_succ (n := s.size) (by omega) (cast_lt (by omega)) (by omega)]
        rfl
theorem spec_Split_ev (s : ByteArray) (hs : s.size ≤ 140737488351232) : Ev (fun k => spec_Split.f k s) (splitF s) := by
  unfold spec_Split.f
  refine spec_Split_l0_ev s hs s.size 0 (by omega) ?_
  unfold splitI
  rw [List.drop_zero]
  have := fc_range (bytesOf s)
  by_cases e : fc (bytesOf s) = -1
  · exact .inl ⟨e, e⟩
  · exact .inr ⟨by omega, by omega⟩
theorem strings_Cut_colon (s : ByteArray) (hs : s.size ≤ 140737488351232) : strings_Cut.f s (⟨#[58]⟩ : ByteArray) = some (if splitI s < 0 then (s, (⟨#[]⟩ : ByteArray), false) else (s.extract 0 (splitI s).toNat, s.extract (splitI s + 1).toNat s.size, true)) := by
  have hr := splitI_range s
  have hx : stringslite_Index.f s (⟨#[58]⟩ : ByteArray) = some (splitI s) := by
    unfold stringslite_Index.f
    rw [if_pos (by rfl)]
    by_cases c : (⟨#[58]⟩ : ByteArray).toList = s.toList
    · rw [if_pos c]
      have : s = ⟨#[58]⟩ := (bytes_inj c).symm
      subst this
      rfl
    · rw [if_neg c]
      unfold stringslite_IndexByte.f splitI
      have e : (bt (⟨#[58]⟩ : ByteArray) 0).toNat.toUInt8 = 58 := by decide
      rw [e, indexByte_fc]
      rfl
  unfold strings_Cut.f stringslite_Cut.f
  rw [hx]
  simp only [Option.bind_some]
  by_cases c : splitI s < 0
  · rw [if_neg (show ¬ splitI s ≥ 0 by omega), if_pos c]
    rfl
  · have w1 : wrap64 (splitI s + (((⟨#[58]⟩ : ByteArray).size : Nat) : Int)) = splitI s + 1 := w64 (by have : ((⟨#[58]⟩ : ByteArray).size : Int) = 1 := rfl; omega) (by have : ((⟨#[58]⟩ : ByteArray).size : Int) = 1 := rfl; omega)
    rw [if_pos (show splitI s ≥ 0 by omega), if_pos (show 0 ≤ splitI s by omega), if_pos (show splitI s ≤ (s.size : Int) by omega), w1, if_pos (show 0 ≤ splitI s + 1 by omega), if_pos (show splitI s + 1 ≤ (s.size : Int) by omega), if_neg c]
    rfl
theorem impl_Split_ev (s : ByteArray) (hs : s.size ≤ 140737488351232) : Ev (fun k => impl_Split.f k s) (splitF s) := by
  unfold impl_Split.f splitF
  rw [strings_Cut_colon s hs]
  simp only [Option.bind_some]
  by_cases c : splitI s < 0
  · simp only [c, if_true, Bool.false_eq_true, if_false]
    refine Ev.bind (impl_NameOk_ev s hs) ?_
    refine Ev.later fun k => ?_
    cases nameOk s <;> simp only [impl_Split.j0, Bool.false_eq_true, if_false, if_true] <;> rfl
  · simp only [c, if_false, if_true]
    refine Ev.step (f := fun k => (impl_NameOk.f k (s.extract 0 (splitI s).toNat)).bind fun t => if t = true then ((impl_NameOk.f k (s.extract (splitI s + 1).toNat s.size)).bind fun u => if u = true then some (s.extract 0 (splitI s).toNat, s.extract (splitI s + 1).toNat s.size, true) else some noName) else some noName) (fun k => ?_) ?_
    · simp only [impl_Split.j0, Bool.false_eq_true, if_false, if_true]
      rfl
    · refine Ev.bind (impl_NameOk_ev _ (size_le hs)) ?_
      cases nameOk (s.extract 0 (splitI s).toNat)
      · exact Ev.now _
      · simp only [if_true]
        refine Ev.bind (impl_NameOk_ev _ (size_le hs)) ?_
        cases nameOk (s.extract (splitI s + 1).toNat s.size) <;> exact Ev.now _
end Go.Proofs.YtbhklkpjjpkblaaDoor.PN
