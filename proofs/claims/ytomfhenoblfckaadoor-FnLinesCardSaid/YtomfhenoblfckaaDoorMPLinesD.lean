/- Ends of lines: what is drawn, and the two loops that look for a carriage return. -/
import Derived.Test.YtomfhenoblfckaaDoorPMx1
import Derived.Test.YtomfhenoblfckaaDoorPMx2
import Derived.Test.YtomfhenoblfckaaDoorMPBase
import Derived.Test.YtomfhenoblfckaaDoorMPLines
import Derived.Test.YtomfhenoblfckaaDoorMPDrawB
namespace Go.Proofs.YtomfhenoblfckaaDoor.PM
open Go.RowKit Go.Proofs.YtomfhenoblfckaaDoorW.PrintWords
set_option linter.unusedVariables false
set_option linter.unusedSimpArgs false
theorem bytesOf_inj {a b : ByteArray} (h : bytesOf a = bytesOf b) : a = b := by
  apply bytes_ext
  unfold bytesOf at h
  refine (List.map_inj_right ?_).1 h
  intro x y e
  apply UInt8.toNat_inj.1
  omega
theorem bytesOf_lineB (s : ByteArray) : bytesOf (lineB s) = lineI (bytesOf s) := by
  unfold bytesOf lineB
  rw [lineI_map]
theorem lineI_no : ∀ l : List Int, ∀ x ∈ lineI l, x ≠ 13
  | [], x, h => by simp [lineI] at h
  | b :: l, x, h => by
    have ih := lineI_no l
    rw [lineI] at h
    by_cases c : b = 13
    · rw [if_pos c] at h
      by_cases d : l.head? = some 10
      · rw [if_pos d] at h; exact ih x h
      · rw [if_neg d] at h
        rcases List.mem_cons.1 h with rfl | h
        · decide
        · exact ih x h
    · rw [if_neg c] at h
      rcases List.mem_cons.1 h with rfl | h
      · exact c
      · exact ih x h
theorem lineI_same : ∀ l : List Int, (∀ x ∈ l, x ≠ 13) → lineI l = l
  | [], _ => rfl
  | b :: l, h => by
    rw [lineI, if_neg (h b (List.mem_cons_self ..)), lineI_same l fun x hx => h x (List.mem_cons_of_mem _ hx)]
theorem lineB_same {s : ByteArray} (h : ∀ x ∈ bytesOf s, x ≠ 13) : lineB s = s := bytesOf_inj (by rw [bytesOf_lineB, lineI_same _ h])
theorem lineB_again (s : ByteArray) : lineB (lineB s) = lineB s := lineB_same (by rw [bytesOf_lineB]; exact lineI_no _)
theorem lineB_size (s : ByteArray) : (lineB s).size ≤ s.size := by
  have := lineI_length (bytesOf s)
  rw [← bytesOf_lineB, bytesOf_length, bytesOf_length] at this
  exact this
theorem bt_mem (s : ByteArray) (n : Nat) (h : n < s.size) : bt s n ∈ bytesOf s := by
  rw [← rd_bytesOf]
  exact rd_mem (bytesOf s) n (by rw [bytesOf_length]; exact h)
theorem mem_bt {s : ByteArray} {x : Int} (h : x ∈ bytesOf s) : ∃ n : Nat, n < s.size ∧ bt s n = x := by
  obtain ⟨n, hn', e⟩ := List.mem_iff_getElem.1 h
  have hn := hn'
  rw [bytesOf_length] at hn
  refine ⟨n, hn, ?_⟩
  rw [← rd_bytesOf, ← e]
  unfold rd
  simp [List.getD_eq_getElem?_getD, List.getElem?_eq_getElem hn']
theorem l1_ev (s t : ByteArray) (b : Bool) (ht : t.size ≤ 1048576) (h : ∀ x ∈ bytesOf t, x ≠ 13) : ∀ (m n : Nat), n + m = t.size → Ev (fun k => laws_FnLines.l1 k s t b (n : Int)) (if b = true then true else (t.toList == s.toList)) := by
  intro m
  induction m with
  | zero =>
    intro n hn
    refine Ev.later fun k => ?_
    rw [laws_FnLines.l1, if_neg (cast_nlt (by omega))]
    cases b <;> rfl
  | succ m ih =>
    intro n hn
    refine Ev.step (fun k => ?_) (ih (n + 1) (by omega))
    rw [laws_FnLines.l1, if_pos (cast_lt (by omega)), if_pos (by omega), if_neg (h _ (bt_mem t n (by omega))), w64 (by omega) (by omega)]
    rfl
theorem l0_ev (s : ByteArray) (hs : s.size ≤ 1048576) : ∀ (m n : Nat) (b : Bool), n + m = s.size → (b = true ∨ ∀ i : Nat, i < n → bt s i ≠ 13) → Ev (fun k => laws_FnLines.l0 k s (lineB s) b (n : Int)) true := by
  have hsz := lineB_size s
  intro m
  induction m with
  | zero =>
    intro n b hn hb
    refine Ev.step (f := fun k => laws_FnLines.l1 k s (lineB s) b ((0 : Nat) : Int)) (fun k => by rw [laws_FnLines.l0, if_neg (cast_nlt (by omega))]; rfl) ?_
    have e := l1_ev s (lineB s) b (by omega) (by rw [bytesOf_lineB]; exact lineI_no _) (lineB s).size 0 (by omega)
    rcases hb with rfl | hb
    · exact e
    · have hq : lineB s = s := lineB_same fun x hx hx' => by
        obtain ⟨i, hi, hi'⟩ := mem_bt hx
        exact hb i (by omega) (hi'.trans hx')
      have : (if b = true then true else ((lineB s).toList == s.toList)) = true := by
        rw [hq]
        cases b <;> simp
      rw [this] at e
      exact e
  | succ m ih =>
    intro n b hn hb
    have hw : wrap64 ((n : Int) + 1) = ((n + 1 : Nat) : Int) := by rw [w64 (by omega) (by omega)]; rfl
    by_cases c : b = true
    · refine Ev.step (fun k => ?_) (ih (n + 1) true (by omega) (Or.inl rfl))
      rw [laws_FnLines.l0, if_pos (cast_lt (by omega)), if_pos c, hw]
    · refine Ev.step (fun k => ?_) (ih (n + 1) (bt s n == 13) (by omega) ?_)
      · rw [laws_FnLines.l0, if_pos (cast_lt (by omega)), if_neg c, if_pos (by omega), hw]
      · by_cases d : bt s n = 13
        · left; rw [d]; rfl
        · right
          intro i hi
          by_cases e : i = n
          · rw [e]; exact d
          · rcases hb with hb | hb
            · exact absurd hb c
            · exact hb i (by omega)
theorem DrawLines_l0 (b : List Int) : ∀ (m : Nat) (s : ByteArray) (p : Int), m ≤ 7 → s.size + 2 * m ≤ 20 → Rd b p → ∃ r : ByteArray, r.size ≤ 20 ∧ Ev (fun k => spec_DrawLines.l0 k s (m : Int) b p) r := by
  intro m
  induction m with
  | zero =>
    intro s p _ hs h
    exact ⟨s, by omega, Ev.later fun k => by rw [spec_DrawLines.l0, if_neg (by omega)]⟩
  | succ m ih =>
    intro s p hm hs h
    obtain ⟨v, p', e, v0, v1, hr⟩ := below_some h 5 (by omega)
    have hv : (rdOf ByteArray.empty [(⟨#[13]⟩ : ByteArray), (⟨#[10]⟩ : ByteArray), (⟨#[13, 10]⟩ : ByteArray), (⟨#[97]⟩ : ByteArray), (⟨#[13, 13]⟩ : ByteArray)] v).size ≤ 2 := by
      have hc : v = 0 ∨ v = 1 ∨ v = 2 ∨ v = 3 ∨ v = 4 := by omega
      rcases hc with rfl | rfl | rfl | rfl | rfl <;> decide
    obtain ⟨r, hr1, hr2⟩ := ih (s ++ rdOf ByteArray.empty [(⟨#[13]⟩ : ByteArray), (⟨#[10]⟩ : ByteArray), (⟨#[13, 10]⟩ : ByteArray), (⟨#[97]⟩ : ByteArray), (⟨#[13, 13]⟩ : ByteArray)] v) p' (by omega) (by rw [ByteArray.size_append]; omega) hr
    refine ⟨r, hr1, Ev.step (fun k => ?_) hr2⟩
    rw [spec_DrawLines.l0, if_pos (by omega), Option.bind_some, e, Option.bind_some]
    have hl : v < (([(⟨#[13]⟩ : ByteArray), (⟨#[10]⟩ : ByteArray), (⟨#[13, 10]⟩ : ByteArray), (⟨#[97]⟩ : ByteArray), (⟨#[13, 13]⟩ : ByteArray)] : List ByteArray).length : Int) := v1
    simp only []
    rw [if_pos v0, if_pos hl, if_pos (by omega), w64 (by omega) (by omega), show (((m + 1 : Nat) : Int) - 1) = (m : Int) by omega]
theorem DrawLines_ev {l : List Int} (h : Rd l 0) : ∃ r : ByteArray, r.size ≤ 20 ∧ Ev (fun k => spec_DrawLines.f k l) r := by
  obtain ⟨v, p', e, v0, v1, hr⟩ := below_some h 8 (by omega)
  obtain ⟨m, rfl⟩ : ∃ m : Nat, v = (m : Int) := ⟨v.toNat, by omega⟩
  obtain ⟨r, h1, h2⟩ := DrawLines_l0 l m (⟨#[]⟩ : ByteArray) p' (by omega) (by simp only [show (⟨#[]⟩ : ByteArray).size = 0 from rfl]; omega) hr
  refine ⟨r, h1, Ev.congr (fun k => ?_) h2⟩
  unfold spec_DrawLines.f
  rw [l1Open_eq, Option.bind_some, e, Option.bind_some]
end Go.Proofs.YtomfhenoblfckaaDoor.PM
