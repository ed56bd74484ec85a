/- Decimal numbers: one nought ahead of the digits changes nothing. -/
import Derived.Test.YtaliphegdclkfaaDoorPZx0
import Derived.Test.YtaliphegdclkfaaDoorZPBase
import Derived.Test.YtaliphegdclkfaaDoorZPIn
import Derived.Test.YtaliphegdclkfaaDoorZPBytes
import Derived.Test.YtaliphegdclkfaaDoorZPDec
import Derived.Test.YtaliphegdclkfaaDoorZPDecN
import Derived.Lib.Strings
namespace Go.Proofs.YtaliphegdclkfaaDoor.PZ
open Go.RowKit Go.Proofs.YtaliphegdclkfaaDoorW.PrintWords Go.Proofs.YtaliphegdclkfaaDoorW.PrintMore
set_option linter.unusedVariables false
set_option linter.unusedSimpArgs false
def zro : ByteArray := ⟨#[48]⟩
theorem zro_size (s : ByteArray) : (zro ++ s).size = s.size + 1 := by
  rw [ByteArray.size_append]
  show 1 + s.size = s.size + 1
  omega
theorem zro_list (s : ByteArray) : (zro ++ s).data.toList = 48 :: s.data.toList := by
  rw [append_list]
  rfl
theorem zro_bt (s : ByteArray) (n : Nat) : bt (zro ++ s) ((n : Int) + 1) = bt s (n : Int) := by
  rw [← rd_bytesOf, ← rd_bytesOf, bytesOf_append]
  show rd ((48 : Int) :: bytesOf s) _ = _
  unfold rd
  rw [show ((n : Int) + 1).toNat = n + 1 by omega, Int.toNat_natCast]
  rfl
theorem zro_cut (s : ByteArray) (h : 0 < s.size) : (zro ++ s).extract 0 (s.size + 1 - 1) = zro ++ s.extract 0 (s.size - 1) := by
  apply bytes_ext
  rw [Lib.extract_data, zro_list, zro_list, Lib.extract_data, List.drop_zero, List.drop_zero, show s.size + 1 - 1 - 0 = (s.size - 1 - 0) + 1 by omega, List.take_succ_cons]
theorem zro_strip (s : ByteArray) : stripL (zro ++ s) = stripL s := by
  unfold stripL
  rw [zro_list]
  rfl
theorem zro_end (neg : Bool) (s : ByteArray) (sc : Int) : endF neg (zro ++ s) sc = endF neg s sc := by
  unfold endF
  rw [zro_strip]
theorem endF_empty (neg : Bool) (s : ByteArray) (sc : Int) (h : s.size = 0) : endF neg s sc = (false, (⟨#[]⟩ : ByteArray), 0, true) := by
  unfold endF
  rw [if_pos (stripL_empty h)]
theorem normF_zro (neg : Bool) : ∀ (d : Nat) (s : ByteArray) (sc : Int), s.size = d → normF neg (d + 1) (zro ++ s) sc = normF neg d s sc
  | 0, s, sc, h => by
    rw [normF, normF, endF_empty neg s sc h]
    by_cases c : sc > 0 ∧ bt (zro ++ s) (((zro ++ s).size : Int) - 1) = 48
    · rw [if_pos c, normF]
      exact endF_empty neg _ _ (by rw [ByteArray.size_extract, zro_size, h]; rfl)
    · rw [if_neg c, zro_end, endF_empty neg s sc h]
  | d + 1, s, sc, h => by
    have hb : bt (zro ++ s) (((zro ++ s).size : Int) - 1) = bt s ((s.size : Int) - 1) := by
      have := zro_bt s (s.size - 1)
      rw [zro_size]
      rw [show (((s.size + 1 : Nat) : Int) - 1) = ((s.size - 1 : Nat) : Int) + 1 by omega, this, show ((s.size - 1 : Nat) : Int) = (s.size : Int) - 1 by omega]
    rw [normF, hb, zro_size, zro_cut s (by omega)]
    conv => rhs; rw [normF]
    by_cases c : sc > 0 ∧ bt s ((s.size : Int) - 1) = 48
    · rw [if_pos c, if_pos c]
      exact normF_zro neg d (s.extract 0 (s.size - 1)) (sc - 1) (by rw [ByteArray.size_extract]; omega)
    · rw [if_neg c, if_neg c, zro_end]
end Go.Proofs.YtaliphegdclkfaaDoor.PZ
