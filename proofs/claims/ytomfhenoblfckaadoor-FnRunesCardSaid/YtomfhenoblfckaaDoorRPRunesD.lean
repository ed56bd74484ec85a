/- Drawn texts and characters: there always are some, and they are short. -/
import Derived.Test.YtomfhenoblfckaaDoorPRx3
import Derived.Test.YtomfhenoblfckaaDoorPRx4
import Derived.Test.YtomfhenoblfckaaDoorRPBase
import Derived.Test.YtomfhenoblfckaaDoorRPIn
import Derived.Test.YtomfhenoblfckaaDoorRPDrawB
import Derived.Test.YtomfhenoblfckaaDoorRPDrawOff
namespace Go.Proofs.YtomfhenoblfckaaDoor.PR
open Go.RowKit Go.Proofs.YtomfhenoblfckaaDoorW.PrintWords
set_option linter.unusedVariables false
set_option linter.unusedSimpArgs false
theorem rdOf_in {α : Type} (d : α) (l : List α) (i : Int) (h0 : 0 ≤ i) (h : i < (l.length : Int)) : rdOf d l i ∈ l := by
  unfold rdOf
  rw [List.getD_eq_getElem?_getD, List.getElem?_eq_getElem (by omega)]
  exact List.getElem_mem _
theorem text_some {b : List Int} {p : Int} (h : Rd b p) : ∃ s p', spec_l1Rd_text.f b p = some (s, p') ∧ s.size ≤ 4 ∧ Rd b p' := by
  unfold spec_l1Rd_text.f
  obtain ⟨v, p', e, v0, v1, hr⟩ := below_some h 14 (by omega)
  rw [Option.bind_some, e, Option.bind_some]
  refine ⟨_, p', by rw [if_pos v0, if_pos (by simpa using v1)], ?_, hr⟩
  have hm := rdOf_in ByteArray.empty ([(⟨#[]⟩ : ByteArray), (⟨#[97]⟩ : ByteArray), (⟨#[98]⟩ : ByteArray), (⟨#[120, 32, 121]⟩ : ByteArray), (⟨#[60, 38, 62]⟩ : ByteArray), (⟨#[34, 39]⟩ : ByteArray), (⟨#[195, 169]⟩ : ByteArray), (⟨#[226, 130, 172]⟩ : ByteArray), (⟨#[240, 159, 152, 128]⟩ : ByteArray), (⟨#[9, 10]⟩ : ByteArray), (⟨#[13, 10]⟩ : ByteArray), (⟨#[49, 50]⟩ : ByteArray), (⟨#[32, 32, 122, 32]⟩ : ByteArray), (⟨#[93, 93, 62]⟩ : ByteArray)] : List ByteArray) v v0 (by simpa using v1)
  simp only [List.mem_cons, List.not_mem_nil, or_false] at hm
  rcases hm with e | e | e | e | e | e | e | e | e | e | e | e | e | e <;> rw [e] <;> decide
theorem drawRunes_some (l : List Int) (h : Rd l 0) : ∃ s, spec_DrawRunes.f l = some s ∧ s.size ≤ 20 := by
  unfold spec_DrawRunes.f
  rw [l1Open_eq]
  obtain ⟨s1, p1, e1, z1, r1⟩ := text_some h
  obtain ⟨s2, p2, e2, z2, r2⟩ := text_some r1
  obtain ⟨q, p3, e3, r3⟩ := once_b r2 3 (by omega)
  simp only [Option.bind_some, e1, e2, e3]
  rw [if_pos (by omega)]
  by_cases c : q = true
  · rw [if_pos c]
    obtain ⟨v, p', e, v0, v1, hr⟩ := below_some r3 6 (by omega)
    simp only [e, Option.bind_some]
    have hm := rdOf_in ByteArray.empty ([(⟨#[192, 128]⟩ : ByteArray), (⟨#[237, 160, 128]⟩ : ByteArray), (⟨#[244, 144, 128, 128]⟩ : ByteArray), (⟨#[226, 130]⟩ : ByteArray), (⟨#[255]⟩ : ByteArray), (⟨#[128]⟩ : ByteArray)] : List ByteArray) v v0 (by simpa using v1)
    have hz : (rdOf ByteArray.empty ([(⟨#[192, 128]⟩ : ByteArray), (⟨#[237, 160, 128]⟩ : ByteArray), (⟨#[244, 144, 128, 128]⟩ : ByteArray), (⟨#[226, 130]⟩ : ByteArray), (⟨#[255]⟩ : ByteArray), (⟨#[128]⟩ : ByteArray)] : List ByteArray) v).size ≤ 4 := by
      simp only [List.mem_cons, List.not_mem_nil, or_false] at hm
      rcases hm with e | e | e | e | e | e <;> rw [e] <;> decide
    refine ⟨_, by rw [if_pos v0, if_pos (by simpa using v1), if_pos (by omega)], ?_⟩
    rw [ByteArray.size_append, ByteArray.size_append]
    omega
  · rw [if_neg c]
    exact ⟨_, rfl, by rw [ByteArray.size_append]; omega⟩
theorem drawOf_l0 {b : List Int} : ∀ (n : Nat) (acc : List Int) (p : Int), Rd b p → acc.length + n ≤ 100 → ∃ m, Ev (fun k => spec_DrawOfRunes.l0 k acc (n : Int) b p) m ∧ m.length ≤ 101
  | 0, acc, p, h, hl => by
    obtain ⟨q, p3, e3, r3⟩ := once_b h 12 (by omega)
    by_cases c : q = true
    · obtain ⟨v, p4, r4, hev⟩ := off_ev r3 55296 57343 (by omega) (by omega) (by omega)
      refine ⟨acc ++ [v], Ev.step (f := fun k => (spec_l1Rd_off.f k b p3 55296 57343).bind fun bt => (if acc.length < 17592186044416 then (some (acc ++ [bt.1])) else (none))) (fun k => ?_) (Ev.bind (a := (v, p4)) hev ?_), by rw [List.length_append]; simp only [List.length_cons, List.length_nil]; omega⟩
      · simp only [spec_DrawOfRunes.l0]
        rw [if_neg (by omega), e3, Option.bind_some, if_pos c]
      · have q1 : acc.length < 17592186044416 := by omega
        simp only [q1, if_true]
        exact Ev.now _
    · refine ⟨acc, Ev.later fun k => ?_, by omega⟩
      simp only [spec_DrawOfRunes.l0]
      rw [if_neg (by omega), e3, Option.bind_some, if_neg c]
  | n + 1, acc, p, h, hl => by
    obtain ⟨v, p', e, v0, v1, hr⟩ := below_some h 9 (by omega)
    obtain ⟨m, hev, hm⟩ := drawOf_l0 n (acc ++ [rd [65, 127, 128, 2047, 2048, 65535, 65536, 1114111, 0] v]) p' hr (by rw [List.length_append]; simp only [List.length_cons, List.length_nil]; omega)
    refine ⟨m, Ev.step (fun k => ?_) hev, hm⟩
    simp only [spec_DrawOfRunes.l0]
    rw [if_pos (by omega), Option.bind_some, e, Option.bind_some, if_pos v0, if_pos (by simpa using v1), if_pos (by omega), w64 (by omega) (by omega)]
    congr 1
    omega
theorem drawOfRunes_ev (l : List Int) (h : Rd l 0) : ∃ m, Ev (fun k => spec_DrawOfRunes.f k l) m ∧ m.length ≤ 101 := by
  unfold spec_DrawOfRunes.f
  rw [l1Open_eq]
  obtain ⟨v, p', e, v0, v1, hr⟩ := below_some h 6 (by omega)
  obtain ⟨m, hev, hm⟩ := drawOf_l0 v.toNat [] p' hr (by simp only [List.length_nil]; omega)
  rw [show ((v.toNat : Nat) : Int) = v by omega] at hev
  refine ⟨m, ?_, hm⟩
  simp only [Option.bind_some, e]
  exact hev
end Go.Proofs.YtomfhenoblfckaaDoor.PR
