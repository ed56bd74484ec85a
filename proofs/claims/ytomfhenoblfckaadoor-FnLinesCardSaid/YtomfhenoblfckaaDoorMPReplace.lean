/- ReplaceAll, taken byte by byte. -/
import Derived.Test.YtomfhenoblfckaaDoorPMx0
import Derived.Test.YtomfhenoblfckaaDoorMPBase
import Derived.Lib.Replace
import Derived.Lib.ReplaceLaws
namespace Go.Proofs.YtomfhenoblfckaaDoor.PM
open Go.RowKit Go.Proofs.YtomfhenoblfckaaDoorW.PrintWords
set_option linter.unusedVariables false
set_option linter.unusedSimpArgs false
theorem ra_def {s old new : List UInt8} (h : old ≠ new) : Lib.replaceAll s old new = Lib.replaceK old new (Lib.count s old) s := by
  unfold Lib.replaceAll Lib.replace
  have hb : ¬ (old == new) = true := by simpa using h
  rw [if_neg hb]
  rfl
theorem ra_nil {old new : List UInt8} (h : old ≠ new) (h0 : old ≠ []) : Lib.replaceAll [] old new = [] := by
  rw [ra_def h]
  have e : Lib.index [] old = -1 := by
    cases old with
    | nil => exact absurd rfl h0
    | cons a t => rfl
  rw [Lib.count_miss e]
  rfl
theorem ra_hit {s old new : List UInt8} (h : old ≠ new) (h0 : old ≠ []) (hp : old.isPrefixOf s = true) : Lib.replaceAll s old new = new ++ Lib.replaceAll (s.drop old.length) old new := by
  have e : Lib.index s old = ((0 : Nat) : Int) := by
    cases s with
    | nil => cases old with
      | nil => exact absurd rfl h0
      | cons a t => simp at hp
    | cons b l => unfold Lib.index; rw [if_pos hp]; rfl
  rw [ra_def h, ra_def h, Lib.count_hit h0 e, Nat.add_comm, Lib.replaceK_hit _ _ _ _ _ e]
  simp
theorem ra_miss {b : UInt8} {l old new : List UInt8} (h : old ≠ new) (h0 : old ≠ []) (hp : ¬ old.isPrefixOf (b :: l) = true) : Lib.replaceAll (b :: l) old new = b :: Lib.replaceAll l old new := by
  rw [ra_def h, ra_def h]
  have e : Lib.index (b :: l) old = if Lib.index l old == -1 then -1 else Lib.index l old + 1 := by
    conv => lhs; unfold Lib.index
    rw [if_neg hp]
  by_cases hm : Lib.index l old = -1
  · have e2 : Lib.index (b :: l) old = -1 := by rw [e, if_pos (by simp [hm])]
    rw [Lib.count_miss hm, Lib.count_miss e2]
    rfl
  · have hge := Lib.index_ge l old
    obtain ⟨i, hi⟩ : ∃ i : Nat, Lib.index l old = i := ⟨(Lib.index l old).toNat, by omega⟩
    have e2 : Lib.index (b :: l) old = ((i + 1 : Nat) : Int) := by
      rw [e, if_neg (by simpa using hm), hi]
      rfl
    rw [Lib.count_hit h0 e2, Lib.count_hit h0 hi, Nat.add_comm, Nat.add_comm 1, Lib.replaceK_hit _ _ _ _ _ e2, Lib.replaceK_hit _ _ _ _ _ hi]
    have e3 : i + 1 + old.length = (i + old.length) + 1 := by omega
    rw [e3]
    simp
/-- The length of what stands behind, where what is put in is no longer. -/
theorem ra_length {old new : List UInt8} (h : old ≠ new) (h0 : old ≠ []) (hn : new.length ≤ old.length) : ∀ (k : Nat) (s : List UInt8), s.length ≤ k → (Lib.replaceAll s old new).length ≤ s.length := by
  intro k
  induction k with
  | zero =>
    intro s hs
    obtain rfl : s = [] := List.length_eq_zero_iff.1 (by omega)
    rw [ra_nil h h0]
    exact Nat.le_refl _
  | succ k ih =>
    intro s hs
    cases s with
    | nil => rw [ra_nil h h0]; exact Nat.le_refl _
    | cons b l =>
      by_cases hp : old.isPrefixOf (b :: l) = true
      · rw [ra_hit h h0 hp, List.length_append]
        have hlen : old.length ≤ (b :: l).length := (List.isPrefixOf_iff_prefix.1 hp).length_le
        have hpos : 0 < old.length := List.length_pos_iff.2 h0
        have hd : ((b :: l).drop old.length).length = (b :: l).length - old.length := List.length_drop
        have := ih ((b :: l).drop old.length) (by omega)
        omega
      · rw [ra_miss h h0 hp]
        have := ih l (by simpa using hs)
        simp only [List.length_cons]
        omega
end Go.Proofs.YtomfhenoblfckaaDoor.PM
