/- A drawn name is its prefix, a colon and what stands behind it, or has no prefix, by the program's Split. No condition. -/
import Derived.Test.YtomfhenoblfckaaPSx2
import Derived.Test.YtomfhenoblfckaaPSx5
import Derived.Test.YtomfhenoblfckaaPSx6
import Derived.Test.YtomfhenoblfckaaPSplit
import Derived.Test.YtomfhenoblfckaaPDraw
import Derived.Test.YtomfhenoblfckaaPDrawNames
namespace Go.Proofs.Ytomfhenoblfckaa.Pure
open Go.RowKit Go.Proofs.Ytomfhenoblfckaa.PS Go.Proofs.YtomfhenoblfckaaW.PrintWords Go.Proofs.YtomfhenoblfckaaW.PrintLast
set_option linter.unusedVariables false
set_option linter.unusedSimpArgs false
theorem draw_j0 {b : List Int} {p : Int} (h : Rd b p) (s : ByteArray) (hs : s.size ≤ 1000) : ∃ t, Ev (fun k => spec_DrawSplit.j0 k s b p) t ∧ t.size ≤ 2000 := by
  obtain ⟨v, p', e, hr⟩ := once_some h 8 (by omega)
  cases v
  · refine ⟨s, Ev.later fun k => ?_, by omega⟩
    simp only [spec_DrawSplit.j0, e, Option.bind_some, Bool.false_eq_true, if_false]
  · obtain ⟨t, p'', hev, ht, hr'⟩ := bytes_some hr 1 (by omega) (by omega)
    refine ⟨(s ++ (⟨#[58]⟩ : ByteArray)) ++ t, ?_, ?_⟩
    · refine Ev.step (f := fun k => (spec_l1Rd_bytes.f k b p' 1).bind fun bt255 => (if s.size + 1 + bt255.1.size ≤ 9223372036854775807 then (some ((s ++ (⟨#[58]⟩ : ByteArray)) ++ bt255.1)) else (none))) (fun k => ?_) ?_
      · simp only [spec_DrawSplit.j0, e, Option.bind_some, if_true]
        rw [if_pos (by omega)]
      · refine Ev.bind hev ?_
        simp only [show s.size + 1 + t.size ≤ 9223372036854775807 by omega, if_true]
        exact Ev.now _
    · simp only [ByteArray.size_append]
      have : (⟨#[58]⟩ : ByteArray).size = 1 := rfl
      omega
theorem draw_some (l : List Int) (h : Rd l 0) : ∃ t, Ev (fun k => spec_DrawSplit.f k l) t ∧ t.size ≤ 2000 := by
  obtain ⟨s, p1, e1, hs, r1⟩ := name_some h
  obtain ⟨v, p2, e2, r2⟩ := once_some r1 2 (by omega)
  cases v
  · obtain ⟨t, hev, ht⟩ := draw_j0 r2 s (by omega)
    refine ⟨t, ?_, ht⟩
    unfold spec_DrawSplit.f
    simp only [l1Open_eq, Option.bind_some, e1, e2, Bool.false_eq_true, if_false]
    exact hev
  · obtain ⟨s2, p3, e3, hs2, r3⟩ := name_some r2
    obtain ⟨t, hev, ht⟩ := draw_j0 r3 ((s ++ (⟨#[58]⟩ : ByteArray)) ++ s2) (by
      simp only [ByteArray.size_append]
      have : (⟨#[58]⟩ : ByteArray).size = 1 := rfl
      omega)
    refine ⟨t, ?_, ht⟩
    unfold spec_DrawSplit.f
    simp only [l1Open_eq, Option.bind_some, e1, e2, e3, if_true, show s.size + 1 ≤ 9223372036854775807 by omega, show s.size + 1 + s2.size ≤ 9223372036854775807 by omega]
    exact hev
theorem split_join (s : ByteArray) (h : 0 ≤ splitI s) : ((s.extract 0 (splitI s).toNat ++ (⟨#[58]⟩ : ByteArray)) ++ s.extract (splitI s + 1).toNat s.size) = s := by
  have key : ∀ (l : List UInt8), 0 ≤ Lib.indexByte l 58 → l.take (Lib.indexByte l 58).toNat ++ [58] ++ l.drop (Lib.indexByte l 58 + 1).toNat = l := by
    intro l
    induction l with
    | nil => intro h; exact absurd h (by decide)
    | cons b l ih =>
      intro h
      by_cases c : b = 58
      · subst c
        rfl
      · have c3 : (b == 58) = false := beq_eq_false_iff_ne.2 c
        simp only [Lib.indexByte, c3, Bool.false_eq_true, if_false] at h ⊢
        by_cases d : Lib.indexByte l 58 = -1
        · rw [if_pos (by rw [d]; rfl)] at h
          exact absurd h (by decide)
        · have d2 : (Lib.indexByte l 58 == -1) = false := beq_eq_false_iff_ne.2 d
          simp only [d2, Bool.false_eq_true, if_false] at h ⊢
          have hr : -1 ≤ Lib.indexByte l 58 := by rw [indexByte_fc]; exact (fc_range _).1
          have hnn : 0 ≤ Lib.indexByte l 58 := by omega
          obtain ⟨m, hm⟩ := Int.eq_ofNat_of_zero_le hnn
          have ih' := ih hnn
          rw [hm] at ih' ⊢
          rw [show ((m : Int) + 1).toNat = m + 1 by omega, show ((m : Int) + 1 + 1).toNat = m + 1 + 1 by omega]
          rw [show ((m : Int)).toNat = m by omega, show ((m : Int) + 1).toNat = m + 1 by omega] at ih'
          simp only [List.take_succ_cons, List.drop_succ_cons, List.cons_append]
          rw [ih']
  have e : splitI s = Lib.indexByte s.data.toList 58 := by
    rw [indexByte_fc]
    rfl
  apply bytes_inj
  rw [toList_eq', toList_eq']
  have h2 : 0 ≤ Lib.indexByte s.data.toList 58 := by rw [← e]; exact h
  have hk := key s.data.toList h2
  rw [← e] at hk
  simp only [ByteArray.data_append, Array.toList_append, Lib.extract_data]
  have hlen : s.data.toList.length = s.size := data_length s
  rw [List.drop_zero, Nat.sub_zero]
  rw [List.take_of_length_le (l := s.data.toList.drop (splitI s + 1).toNat) (by rw [List.length_drop]; omega)]
  exact hk
theorem FnSplit : laws_FnSplit.Pure := by
  intro l _ hl hw
  refine Ev.rounds (r := true) ?_
  unfold laws_FnSplit.f laws_big.f
  simp only [Option.bind_some]
  by_cases c : (l.length : Int) > 1048576
  · simp only [c, decide_true, if_true]
    exact Ev.now _
  simp only [c, decide_false, Bool.false_eq_true, if_false]
  obtain ⟨s, hev, hs⟩ := draw_some l (Rd.start hl hw)
  have hs2 : s.size ≤ 140737488351232 := by omega
  refine Ev.bind hev (Ev.bind (impl_Split_ev s hs2) (Ev.bind (spec_Split_ev s hs2) ?_))
  simp only [bne_self_eq_false, Bool.false_eq_true, if_false]
  have hr := splitI_range s
  unfold splitF
  by_cases c1 : splitI s < 0
  · simp only [c1, if_true]
    cases hn : nameOk s
    · simp only [Bool.false_eq_true, if_false, noName, Bool.not_false]
      exact Ev.later fun k => by simp [laws_FnSplit.j0]
    · simp only [if_true, Bool.not_true]
      refine Ev.step (f := fun k => (impl_NameOk.f k s).bind fun t => if t = true then some true else some false) (fun k => ?_) ?_
      · simp only [laws_FnSplit.j0, Bool.false_eq_true, if_false]
        rw [if_pos (show (⟨#[]⟩ : ByteArray).toList = [] by simp)]
        simp
      · refine Ev.bind (impl_NameOk_ev s hs2) ?_
        simp only [hn, if_true]
        exact Ev.now _
  · simp only [c1, if_false]
    cases hn1 : nameOk (s.extract 0 (splitI s).toNat)
    · simp only [Bool.false_eq_true, if_false, noName, Bool.not_false]
      exact Ev.later fun k => by simp [laws_FnSplit.j0]
    · cases hn2 : nameOk (s.extract (splitI s + 1).toNat s.size)
      · simp only [if_true, Bool.false_eq_true, if_false, noName, Bool.not_false]
        exact Ev.later fun k => by simp [laws_FnSplit.j0]
      · simp only [if_true, Bool.not_true]
        have j := split_join s (by omega)
        have z1 := size_le (a := 0) (b := (splitI s).toNat) hs2
        have z2 := size_le (a := (splitI s + 1).toNat) (b := s.size) hs2
        have hne : ¬ (s.extract 0 (splitI s).toNat).toList = [] := by
          intro e
          have : (s.extract 0 (splitI s).toNat).size = 0 := by
            rw [toList_eq'] at e
            rw [← data_length, e]
            rfl
          have hf : nameOk (s.extract 0 (splitI s).toNat) = false := by
            unfold nameOk
            rw [decide_eq_false (by omega), Bool.false_and]
          rw [hf] at hn1
          cases hn1
        refine Ev.step (f := fun k => (impl_NameOk.f k (s.extract (splitI s + 1).toNat s.size)).bind fun t => if t = true then ((impl_NameOk.f k (s.extract 0 (splitI s).toNat)).bind fun u => if u = true then some true else some false) else some false) (fun k => ?_) ?_
        · simp only [laws_FnSplit.j0, Bool.false_eq_true, if_false]
          rw [if_neg hne, if_pos (by omega), if_pos (by omega), j]
          simp
        · refine Ev.bind (impl_NameOk_ev _ z2) ?_
          simp only [hn2, if_true]
          refine Ev.bind (impl_NameOk_ev _ z1) ?_
          simp only [hn1, if_true]
          exact Ev.now _
end Go.Proofs.Ytomfhenoblfckaa.Pure
