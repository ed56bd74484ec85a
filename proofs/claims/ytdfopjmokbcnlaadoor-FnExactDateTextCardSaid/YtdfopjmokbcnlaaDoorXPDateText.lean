/- Two digits of a number, said by the reference and by the program. -/
import Derived.Test.YtdfopjmokbcnlaaDoorPXx1
import Derived.Test.YtdfopjmokbcnlaaDoorPXx3
import Derived.Test.YtdfopjmokbcnlaaDoorXPBase
import Derived.Test.YtdfopjmokbcnlaaDoorXPIn
import Derived.Test.YtdfopjmokbcnlaaDoorXPDateOk
import Derived.Test.YtdfopjmokbcnlaaDoorXPPad
namespace Go.Proofs.YtdfopjmokbcnlaaDoor.PX
open Go.RowKit Go.Proofs.YtdfopjmokbcnlaaDoorW.PrintWords
set_option linter.unusedVariables false
set_option linter.unusedSimpArgs false
def twoB (n : Int) : ByteArray := ⟨(two n.toNat).toArray⟩
theorem l5Two_eq {n : Int} (h0 : 0 ≤ n) (h1 : n ≤ 99) : spec_l5Two.f n = some (twoB n) := by
  unfold spec_l5Two.f twoB two strOfNums
  rw [Int.tdiv_eq_ediv_of_nonneg h0, w64 (x := n / 10) (by omega) (by omega), Int.tmod_eq_emod_of_nonneg (show 0 ≤ n / 10 by omega), Int.tmod_eq_emod_of_nonneg h0, w64 (x := 48 + n / 10 % 10) (by omega) (by omega), w64 (x := 48 + n % 10) (by omega) (by omega)]
  have e1 : ((48 + n / 10 % 10) % 256).toNat = 48 + n.toNat / 10 % 10 := by omega
  have e2 : ((48 + n % 10) % 256).toNat = 48 + n.toNat % 10 := by omega
  simp only [List.map_cons, List.map_nil, e1, e2]
theorem itoa_pos {n : Int} (h0 : 0 ≤ n) : Lib.itoa n = Lib.decDigits n.toNat := by
  unfold Lib.itoa
  rw [if_neg (by omega)]
theorem padded_of {n a1 : Int} {L : List UInt8} (h0 : 0 ≤ n) (h1 : n ≤ 9999) (ha : a1 ≤ 20) (hl : ((Lib.decDigits n.toNat).length : Int) ≤ a1) (h : Lib.repeatL [48] (a1.toNat - (Lib.decDigits n.toNat).length) ++ Lib.decDigits n.toNat = L) (hL : L.length ≤ 20) : impl_padded.f n a1 = some ⟨L.toArray⟩ := by
  unfold impl_padded.f strconv_FormatInt.f strings_Repeat.f
  rw [if_pos ⟨rfl, by omega, by omega⟩, Option.bind_some, itoa_pos h0]
  have hs : (⟨(Lib.decDigits n.toNat).toArray⟩ : ByteArray).size = (Lib.decDigits n.toNat).length := by simp [ByteArray.size]
  have hs1 : (⟨#[48]⟩ : ByteArray).size = 1 := rfl
  rw [hs, w64 (by omega) (by omega), if_pos ⟨by omega, by omega, by rw [hs1]; omega⟩, Option.bind_some]
  have et : (a1 - ((Lib.decDigits n.toNat).length : Int)).toNat = a1.toNat - (Lib.decDigits n.toNat).length := by omega
  rw [et]
  have e48 : (⟨#[48]⟩ : ByteArray).data.toList = [48] := rfl
  rw [e48]
  have hlen : (Lib.repeatL [48] (a1.toNat - (Lib.decDigits n.toNat).length)).length ≤ 20 := by
    have := congrArg List.length h
    rw [List.length_append] at this
    omega
  have hz : (⟨(Lib.repeatL [48] (a1.toNat - (Lib.decDigits n.toNat).length)).toArray⟩ : ByteArray).size = (Lib.repeatL [48] (a1.toNat - (Lib.decDigits n.toNat).length)).length := by simp [ByteArray.size]
  rw [hz, if_pos (by omega), ← h]
  refine congrArg some (ByteArray.ext ?_)
  rw [ByteArray.data_append]
  simp
theorem two_length (n : Nat) : (two n).length = 2 := rfl
theorem padded_two {n : Int} (h0 : 0 ≤ n) (h1 : n ≤ 99) : impl_padded.f n 2 = some (twoB n) := by
  have hp := pad2 (n := n.toNat) (by omega)
  have hl := congrArg List.length hp
  rw [List.length_append, two_length] at hl
  exact padded_of h0 (by omega) (by omega) (by omega) hp (by rw [two_length]; omega)
theorem padded_four {n : Int} (h0 : 0 ≤ n) (h1 : n ≤ 9999) : impl_padded.f n 4 = some (twoB (n / 100) ++ twoB (n % 100)) := by
  have hp := pad4 (n := n.toNat) (by omega)
  have hl := congrArg List.length hp
  rw [List.length_append, List.length_append, two_length, two_length] at hl
  rw [padded_of (a1 := 4) h0 h1 (by omega) (by omega) hp (by rw [List.length_append, two_length, two_length]; omega)]
  refine congrArg some (ByteArray.ext ?_)
  rw [ByteArray.data_append]
  unfold twoB
  rw [show (n / 100).toNat = n.toNat / 100 by omega, show (n % 100).toNat = n.toNat % 100 by omega]
  simp
theorem twoB_size (n : Int) : (twoB n).size = 2 := rfl
end Go.Proofs.YtdfopjmokbcnlaaDoor.PX
