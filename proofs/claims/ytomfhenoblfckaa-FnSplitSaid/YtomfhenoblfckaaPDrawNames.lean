import Derived.Test.YtomfhenoblfckaaPSx5
import Derived.Test.YtomfhenoblfckaaPBase
import Derived.Test.YtomfhenoblfckaaPIn
import Derived.Test.YtomfhenoblfckaaPDraw
namespace Go.Proofs.Ytomfhenoblfckaa.PS
open Go.RowKit Go.Proofs.YtomfhenoblfckaaW.PrintWords
set_option linter.unusedVariables false
set_option linter.unusedSimpArgs false
/- Drawn names: short texts. -/
theorem rdOf_mem {α : Type} (d : α) (l : List α) (i : Int) (h0 : 0 ≤ i) (h : i < (l.length : Int)) : rdOf d l i ∈ l := by
  unfold rdOf
  rw [List.getD_eq_getElem?_getD, List.getElem?_eq_getElem (by omega)]
  exact List.getElem_mem _
theorem name_some {b : List Int} {p : Int} (h : Rd b p) : ∃ s p', spec_l1Rd_name.f b p = some (s, p') ∧ s.size ≤ 5 ∧ Rd b p' := by
  unfold spec_l1Rd_name.f
  obtain ⟨v, p', e, v0, v1, hr⟩ := below_some h 7 (by omega)
  rw [Option.bind_some, e, Option.bind_some]
  refine ⟨_, p', by rw [if_pos v0, if_pos (by simpa using v1)], ?_, hr⟩
  have hm := rdOf_mem ByteArray.empty ([(⟨#[97]⟩ : ByteArray), (⟨#[98]⟩ : ByteArray), (⟨#[99]⟩ : ByteArray), (⟨#[100]⟩ : ByteArray), (⟨#[120, 49]⟩ : ByteArray), (⟨#[95, 121]⟩ : ByteArray), (⟨#[97, 46, 98, 45, 99]⟩ : ByteArray)] : List ByteArray) v v0 (by simpa using v1)
  simp only [List.mem_cons, List.not_mem_nil, or_false] at hm
  rcases hm with e | e | e | e | e | e | e <;> rw [e] <;> decide
theorem bytes_l0_some {b : List Int} : ∀ (n : Nat) (acc : List Int) (p : Int), Rd b p → acc.length + n ≤ 100000 → ∃ s p', Ev (fun k => spec_l1Rd_bytes.l0 k acc (n : Int) b p) (s, p') ∧ s.size ≤ acc.length + n ∧ Rd b p'
  | 0, acc, p, h, hl => ⟨strOfNums acc, p, Ev.later fun k => by simp only [spec_l1Rd_bytes.l0]; rw [if_neg (by omega)], by rw [strOfNums_size]; omega, h⟩
  | n + 1, acc, p, h, hl => by
    obtain ⟨v, p', e, v0, v1, hr⟩ := below_some h 256 (by omega)
    obtain ⟨s, p'', hev, hs, hr'⟩ := bytes_l0_some n (acc ++ [v % 256]) p' hr (by simp; omega)
    refine ⟨s, p'', Ev.step (f := fun k => spec_l1Rd_bytes.l0 k (acc ++ [v % 256]) (n : Int) b p') (fun k => ?_) hev, by simp at hs; omega, hr'⟩
    simp only [spec_l1Rd_bytes.l0]
    rw [if_pos (by omega), e, Option.bind_some, if_pos (by omega), w64 (by omega) (by omega)]
    congr 1
    omega
theorem bytes_some {b : List Int} {p : Int} (h : Rd b p) (m : Int) (h0 : 0 ≤ m) (hm : m ≤ 1000) : ∃ s p', Ev (fun k => spec_l1Rd_bytes.f k b p m) (s, p') ∧ (s.size : Int) ≤ m ∧ Rd b p' := by
  unfold spec_l1Rd_bytes.f
  rw [w64 (x := m + 1) (by omega) (by omega)]
  obtain ⟨v, p', e, v0, v1, hr⟩ := below_some h (m + 1) (by omega)
  obtain ⟨s, p'', hev, hs, hr'⟩ := bytes_l0_some v.toNat [] p' hr (by simp; omega)
  refine ⟨s, p'', ?_, by simp at hs; omega, hr'⟩
  simp only [e, Option.bind_some]
  rw [show ((v.toNat : Nat) : Int) = v by omega] at hev
  exact hev
end Go.Proofs.Ytomfhenoblfckaa.PS
