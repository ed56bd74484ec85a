-- Printed by this session's pdrive.py over the kit's printer.
import Derived.Test.YtbhklkpjjpkblaaDoorHShort
import Derived.Test.YtbhklkpjjpkblaaDoorPJx0
namespace Go.Proofs.YtbhklkpjjpkblaaDoor.PJ
open Go.RowKit Go.Proofs.YtbhklkpjjpkblaaDoorW.PrintWords Go.Proofs.YtbhklkpjjpkblaaDoorW.PrintLast Go.Proofs.YtbhklkpjjpkblaaDoorW.PrintMore Go.Proofs.YtbhklkpjjpkblaaDoorW.WordsB Go.Proofs.YtbhklkpjjpkblaaDoorW.GlM Go.Proofs.YtbhklkpjjpkblaaDoorW.Short
attribute [local go_sem] max2_int min2_int max_two min_two max_three min_three max_four min_four   -- for this text's walks alone
set_option linter.unusedVariables false
set_option linter.unusedSimpArgs false

/-! ### laws_markText: function 65 -/
def laws_markText.l0 : Nat → Int → ByteArray → Option (ByteArray)
 | 0, _, _ => none
 | k + 1, x0, x3 => if x0 > 0 then ((some (([(wrap64 (48 + (Int.tmod x0 10))) % 256] : List Int) : List Int)).bind fun y146 => (if (strOfNums y146).size + x3.size ≤ 9223372036854775807 then (laws_markText.l0 k (wrap64 (Int.tdiv x0 10)) ((strOfNums y146) ++ x3)) else (none))) else (if 1 + x3.size ≤ 9223372036854775807 then (some ((⟨#[109]⟩ : ByteArray) ++ x3)) else (none))
def laws_markText.f (k : Nat) (a0 : Int) : Option (ByteArray) := if a0 ≤ 0 then (some (⟨#[109, 48]⟩ : ByteArray)) else (laws_markText.l0 k a0 (⟨#[]⟩ : ByteArray))
theorem laws_markText.mono_l : ∀ k, (∀ y0 y1, LeO (laws_markText.l0 k y0 y1) (laws_markText.l0 (k + 1) y0 y1))
 | 0 => fun _ _ r h => by simp [laws_markText.l0] at h
 | k + 1 => by
  have ih0 := laws_markText.mono_l k
  ·intro y0 y1
   unfold laws_markText.l0
   repeat' first
   | (with_reducible exact ih0 _ _)
   | (with_reducible exact LeO.refl _)
   | (with_reducible exact LeO.none _)
   | (with_reducible refine LeO.ite ?_ ?_)
   | (with_reducible refine LeO.bind ?_ (fun _ => ?_))
   | exact ih0 _ _
   | exact LeO.none _
   | refine LeO.ite ?_ ?_
   | refine LeO.bind ?_ (fun _ => ?_)
theorem laws_markText.mono : ∀ a0 k, LeO (laws_markText.f k a0) (laws_markText.f (k + 1) a0) := by
 intro a0 k
 have ih0 := laws_markText.mono_l k
 unfold laws_markText.f
 repeat' first
   | (with_reducible exact ih0 _ _)
   | (with_reducible exact LeO.refl _)
   | (with_reducible exact LeO.none _)
   | (with_reducible refine LeO.ite ?_ ?_)
   | (with_reducible refine LeO.bind ?_ (fun _ => ?_))
   | exact ih0 _ _
   | exact LeO.none _
   | refine LeO.ite ?_ ?_
   | refine LeO.bind ?_ (fun _ => ?_)
set_option maxHeartbeats 8000000 in
set_option maxRecDepth 100000 in
theorem laws_markText.calls (k : Nat) (a0 : Int) (r : ByteArray) (w : World) (h : laws_markText.f k a0 = some r) :
  Calls Tryd.prog 65 #[.int .i64 a0] w fun e w' => e = .returned (.string r) ∧ Below w.heap.size w w' := by
 have HB := Aside0.mk (Below.refl w.heap.size w)
 have H : (if a0 ≤ 0 then (some (⟨#[109, 48]⟩ : ByteArray)) else (laws_markText.l0 k a0 (⟨#[]⟩ : ByteArray))) = some r := h
 clear h
 by_cases c2 : a0 ≤ 0
 ·rw [if_pos c2] at H
  have c2b0 : decide (a0 ≤ 0) = true := decide_eq_true c2
  clear c2
  obtain rfl := Option.some.inj H
  go_enter Tryd.func65, Tryd.ntmps65
  go_wp2
  go_ret
  exact ⟨aS, aB⟩
 ·rw [if_neg c2] at H
  have c2b0 : decide (a0 ≤ 0) = false := decide_eq_false c2
  clear c2
  have H' := Aside0.mk H
  clear H
  go_enter Tryd.func65, Tryd.ntmps65
  go_wp2
  go_loopg [0, 3] k (fun kq v0 v3 w' => ∃ (x0_1 : Int) (x3_1 : ByteArray), v0 = .int .i64 x0_1 ∧ v3 = .string x3_1 ∧ Aside0 (laws_markText.l0 kq x0_1 x3_1 = some r) ∧ Aside0 (kq ≤ k) ∧ Aside0 (Below w.heap.size w w'))
  case atStart => exact ⟨(a0), ((⟨#[]⟩ : ByteArray)), aR, aR, H', ⟨Nat.le_refl _⟩, ⟨aB⟩⟩
  case round =>
   clear H'
   try clear c2
   try clear c2b0
   try clear p2
   obtain ⟨x0_1, x3_1, rfl, rfl, HA, HK1, HB⟩ := hrel
   cases gk with
   | zero => exact absurd HA.out (by simp [laws_markText.l0])
   | succ k1 =>
    have H := HA.out
    clear HA
    simp only [laws_markText.l0] at H
    by_cases c3 : x0_1 > 0
    ·rw [if_pos c3] at H
     have c3b0 : decide (0 < x0_1) = true := decide_eq_true c3
     clear c3
     obtain ⟨y146, hy146⟩ : ∃ y_ : List Int, y_ = (([(wrap64 (48 + (Int.tmod x0_1 10))) % 256] : List Int)) := ⟨_, rfl⟩
     replace H : (if (strOfNums y146).size + x3_1.size ≤ 9223372036854775807 then (laws_markText.l0 k1 (wrap64 (Int.tdiv x0_1 10)) ((strOfNums y146) ++ x3_1)) else (none)) = some r := by first | (rw [hy146]; with_reducible exact H) | (have H2_ := (Option.bind_some _ _).symm.trans H; rw [hy146]; with_reducible exact H2_) | (have H2_ := (Option.bind_some _ _).symm.trans H; with_reducible exact H2_) | with_reducible exact H | (rw [hy146]; exact H) | exact H
     have Ny146 := Aside0.mk hy146
     clear hy146
     by_cases c4 : (strOfNums y146).size + x3_1.size ≤ 9223372036854775807
     ·rw [if_pos c4] at H
      have c4b0 := eq_true c4
      have c4b1 : decide ((strOfNums y146).size + x3_1.size ≤ 9223372036854775807) = true := decide_eq_true c4
      try have c4b2 : (9223372036854775807 < (strOfNums y146).size + x3_1.size) = False := eq_false (Nat.not_lt.2 c4)
      have H' := Aside0.mk H
      clear H
      go_wp2_with (first | ((with_reducible refine gate_dst (N := 12) rfl ?_); refine Kd.R_lit (Kd.int .u8) _ 5 ?hg (N := 12) ?hd (xs := ([(wrap64 (48 + (Int.tmod x0_1 10))) % 256] : List Int)) (inner := [.int .u8 ((wrap64 (48 + (Int.tmod x0_1 10))) % 256)]) (ok := fun _ => True) (okp := fun _ => True) ?hr ?hp (fun _ hk => hk) trivial (Below.refl _ _) (Nat.le_refl _) (by simp) ?_; (case hd => rfl); (case hg => rfl); (case hr => first | (go_simp; done) | (go_simp; rfl)); (case hp => exact (Reps.one (show Kd.M (Kd.int .u8) _ _ _ ((wrap64 (48 + (Int.tmod x0_1 10))) % 256) [.int .u8 ((wrap64 (48 + (Int.tmod x0_1 10))) % 256)] from rfl) (Reps.none _ _))); intro v147 w5 ho6 hb hg_ hnew_; clear hg_ hnew_; (first | rw [← Ny146.out] at ho6 | (simp only [Int.reduceToNat] at ho6; rw [← Ny146.out] at ho6)); have n0_ := Aside0.mk (Kd.R_lower ho6 (below_size aB)); have n1_ := Aside0.mk (below_step aB hb); clear HB; have HO148 := n0_; have HB := n1_; clear n0_ n1_; clear hb ho6; have hcv7 := own_string (P := Tryd.prog) Tryd.underlying53 Tryd.underlying5 Tryd.underlying9 (Kd.own_of_R HO148.out)))
      go_roundg k1
      case measure => have := HK1.out; omega
      case rel => exact ⟨(wrap64 (Int.tdiv x0_1 10)), ((strOfNums y146) ++ x3_1), aR, aR, H', ⟨by have := HK1.out; omega⟩, ⟨aB⟩⟩
     ·rw [if_neg c4] at H
      exact absurd H (by simp)
    ·rw [if_neg c3] at H
     have c3b0 : decide (0 < x0_1) = false := decide_eq_false c3
     clear c3
     by_cases c8 : 1 + x3_1.size ≤ 9223372036854775807
     ·rw [if_pos c8] at H
      have c8b0 := eq_true c8
      have c8b1 : decide (1 + x3_1.size ≤ 9223372036854775807) = true := decide_eq_true c8
      try have c8b2 : (9223372036854775807 < 1 + x3_1.size) = False := eq_false (Nat.not_lt.2 c8)
      obtain rfl := Option.some.inj H
      go_wp2
      go_ret
      exact ⟨aS, aB⟩
     ·rw [if_neg c8] at H
      exact absurd H (by simp)

/-! ### laws_markItemS: function 27 -/
section
open Go.Proofs.YtbhklkpjjpkblaaDoorW.Marks
theorem ret_num {a b : Int} (h : a = b) : Ending.returned (.int .i64 a) = .returned (.int .i64 b) := by rw [h]
theorem laws_markText_some (y : Int) (h : y ≤ 1000000100) : ∃ k r, laws_markText.f k y = some r := by
  have main : ∀ (d : Nat) (y : Int) (s : ByteArray), y ≤ 1000000100 → y < 10 ^ d → s.size + d ≤ 1000 → ∃ k r, laws_markText.l0 k y s = some r := by
    intro d
    induction d with
    | zero =>
      intro y s hm hy hs
      have hy2 : ¬ y > 0 := by simp at hy; omega
      exact ⟨1, _, by simp only [laws_markText.l0]; rw [if_neg hy2, if_pos (by omega)]⟩
    | succ d ih =>
      intro y s hm hy hs
      by_cases c : y > 0
      · have e1 : (strOfNums [(wrap64 (48 + (Int.tmod y 10))) % 256]).size = 1 := rfl
        have hw0 : wrap64 (Int.tdiv y 10) = y / 10 := by
          rw [Int.tdiv_eq_ediv_of_nonneg (by omega)]
          unfold wrap64
          omega
        have hw : y / 10 < 10 ^ d := by
          rw [Int.pow_succ] at hy
          omega
        have hn : ∃ k r, laws_markText.l0 k (wrap64 (Int.tdiv y 10)) (strOfNums [(wrap64 (48 + (Int.tmod y 10))) % 256] ++ s) = some r := by
          have hsz : (strOfNums [(wrap64 (48 + (Int.tmod y 10))) % 256] ++ s).size = 1 + s.size := by rw [ByteArray.size_append, e1]
          rw [hw0]
          exact ih _ _ (by omega) hw (by omega)
        obtain ⟨k, r, hk⟩ := hn
        refine ⟨k + 1, r, ?_⟩
        simp only [laws_markText.l0]
        rw [if_pos c]
        simp only [Option.bind_some]
        rw [if_pos (by omega)]
        exact hk
      · exact ⟨1, _, by simp only [laws_markText.l0]; rw [if_neg c, if_pos (by omega)]⟩
  unfold laws_markText.f
  by_cases c : y ≤ 0
  · exact ⟨0, _, by rw [if_pos c]⟩
  · obtain ⟨k, r, hk⟩ := main 10 y ⟨#[]⟩ h (by omega) (by decide)
    exact ⟨k, r, by rw [if_neg c]; exact hk⟩
set_option maxHeartbeats 8000000 in
set_option maxRecDepth 100000 in
theorem laws_markItemS.inner (P Q : Nat → Prop) (u : Value) (l0 : List S76) (a1 : Int) (w0 wS w : World) (hB : Below w0.heap.size w0 w) (hS : Same P wS w) (hR : Kd.R k76 76 wS w0.heap.size Q u l0) (hQ : ∀ k, Q k → P k) (h0 : 0 ≤ a1) (h1 : a1 + 2 * (l0.length : Int) ≤ 1000000000) :
    Calls Tryd.prog 66 #[u, .int .i64 a1] w fun e w' => e = .returned (.int .i64 (a1 + 2 * (l0.length : Int))) ∧ Below w0.heap.size w0 w' ∧ Same P wS w' := by
  have hu76 := Tryd.underlying76
  obtain ⟨A0, c0, rfl⟩ := Kd.R_slice hR
  have HR := Aside0.mk hR
  have HQ := Aside0.mk hQ
  have HS := Aside0.mk hS
  have HB := Aside0.mk hB
  have H01 := Aside0.mk (And.intro h0 h1)
  clear hR hQ hS hB h0 h1
  go_enter Tryd.func66, Tryd.ntmps66
  go_wp2
  go_loopg [1, 5] (l0.length + 1) (fun kq v1 v5 w' => ∃ (x y : Int), v1 = .int .i64 y ∧ v5 = .int .i64 x ∧ Aside0 (a1 ≤ y ∧ y = a1 + 2 * x) ∧ Aside0 (0 ≤ x ∧ x ≤ (l0.length : Int) ∧ (l0.length : Int) < (kq : Int) + x) ∧ Aside0 (Same P wS w') ∧ Aside0 (Below w0.heap.size w0 w'))
  case atStart => exact ⟨0, a1, aR, aR, ⟨by omega, by omega⟩, ⟨by omega, by omega, by omega⟩, ⟨(by repeat (first | (with_reducible first | exact HS.out | apply Same.alloc | apply Same.drewN | apply Same.drew) | exact HS.out))⟩, ⟨aB⟩⟩
  case round =>
    clear HS HB
    obtain ⟨x, y, rfl, rfl, HY, HI, HS, HB⟩ := hrel
    by_cases hi : x < (l0.length : Int)
    · have c3b0 : decide (x < (l0.length : Int)) = true := decide_eq_true hi
      have c5b0 : decide (0 ≤ x) = true := decide_eq_true HI.out.1
      have p6 : 0 ≤ x := HI.out.1
      have q6 : x < (l0.length : Int) := hi
      obtain ⟨g, cap, eo6, gb6, gl6, cl6, HG6⟩ := Kd.R_form HR.out (by omega)
      (first | cases eo6 | (injection eo6 with ea_ en_ ec_; (first | subst ea_ | (injection ea_ with ea_; subst ea_)); subst ec_; clear en_))
      have GB := Aside0.mk gb6
      have HG := Aside0.mk HG6
      have HP := Aside0.mk (HQ.out g (HR.out.1 g (by simp [Value.ownBlock])))
      clear gb6 gl6 HG6
      obtain ⟨ce, hcl, hM, hcc, hfr⟩ := Kd.R_elem HR.out z76 x p6 q6
      obtain rfl := k76_openM hM
      have HC0 : Aside0 (wS.cell? ⟨g, x.toNat * 2, none⟩ = some (.string (rd_T76 l0 x).f0)) := ⟨hcc 0 _ rfl⟩
      have HC1 : Aside0 (wS.cell? ⟨g, x.toNat * 2 + 1, none⟩ = some (.string (rd_T76 l0 x).f1)) := ⟨hcc 1 _ rfl⟩
      clear hcl hcc hfr hM
      have hy := HY.out
      have h01 := H01.out
      have wv : ∀ z : Int, 0 ≤ z → z ≤ 1000000100 → wrap64 (z + 1) = z + 1 := fun z h1 h2 => by unfold wrap64; omega
      have wv1 : wrap64 (y + 1) = y + 1 := wv y (by omega) (by omega)
      have wv2 : wrap64 ((wrap64 (y + 1)) + 1) = y + 2 := by rw [wv1, wv (y + 1) (by omega) (by omega)]; omega
      obtain ⟨km0, tm0, am0⟩ := laws_markText_some (y) (by omega)
      have AM0 := Aside0.mk am0
      clear am0
      obtain ⟨km1, tm1, am1⟩ := laws_markText_some (wrap64 (y + 1)) (by omega)
      have AM1 := Aside0.mk am1
      clear am1
      have HE : Aside0 (wrap64 ((wrap64 (y + 1)) + 1) = y + 2) := ⟨by omega⟩
      have HI2 := Aside0.mk hi
      have HY2 := Aside0.mk hy
      have hlen9 := (Kd.R_reads' HR.out).2.2.2.1
      have HX2 : Aside0 (wrap64 (x + 1) = x + 1) := ⟨by unfold wrap64; omega⟩
      clear hi hy h01 wv hlen9 wv1 wv2
      replace p6 := eq_true p6
      replace q6 := eq_true q6
      go_wp2_with (first | ((with_reducible refine gate_callee (f := 65) rfl ?_); refine goesL_ (some 15) rfl rfl Tryd.func65 (by kernel_rfl) rfl #[.int .i64 y] rfl aG ?_; (with_reducible refine (laws_markText.calls km0 y tm0 _ AM0.out).mono ?_); rintro e wc0 ⟨rfl, hb⟩; refine ⟨_, rfl, ?_⟩; have n0_ : Aside0 (Same P wS wc0) := ⟨Same.below (by repeat (first | (with_reducible first | exact HS.out | apply Same.alloc | apply Same.drewN | apply Same.drew) | exact HS.out)) hb⟩; have n1_ : Aside0 (Below w0.heap.size w0 wc0) := ⟨below_step aB hb⟩; clear HS HB hb; have HS := n0_; have HB := n1_; clear n0_ n1_; obtain ⟨z0, hx0, hf0⟩ := Same.str HS.out HG.out HC0.out) | ((with_reducible refine gate_store (t := 9) (p := 17) rfl ?_); refine store_event (t := 9) (p := 17) (v := ?vo_0) (w1 := (wc0.setCell ⟨g, x.toNat * 2, none⟩ (.string tm0))) ?hg ?ho ?hn ?hr ?_; (case ho => rfl); (case hg => rfl); (case hn => rfl); (case hr => first | (go_simp; done) | (go_simp; rfl)); intro ws0 hw; have n0_ : Aside0 (Same P wS ws0) := ⟨by rw [hw]; exact Same.put HS.out HP.out HG.out hx0 (.inr (.inl ⟨_, _, rfl, rfl⟩))⟩; have n1_ : Aside0 (Below w0.heap.size w0 ws0) := ⟨by rw [hw]; exact below_set HB.out GB.out⟩; clear HS HB hw; have HS := n0_; have HB := n1_; clear n0_ n1_; clear hx0 hf0) | ((with_reducible refine gate_callee (f := 65) rfl ?_); refine goesL_ (some 23) rfl rfl Tryd.func65 (by kernel_rfl) rfl #[.int .i64 (wrap64 (y + 1))] rfl aG ?_; (with_reducible refine (laws_markText.calls km1 (wrap64 (y + 1)) tm1 _ AM1.out).mono ?_); rintro e wc1 ⟨rfl, hb⟩; refine ⟨_, rfl, ?_⟩; have n0_ : Aside0 (Same P wS wc1) := ⟨Same.below (by repeat (first | (with_reducible first | exact HS.out | apply Same.alloc | apply Same.drewN | apply Same.drew) | exact HS.out)) hb⟩; have n1_ : Aside0 (Below w0.heap.size w0 wc1) := ⟨below_step aB hb⟩; clear HS HB hb; have HS := n0_; have HB := n1_; clear n0_ n1_; obtain ⟨z1, hx1, hf1⟩ := Same.str HS.out HG.out HC1.out) | ((with_reducible refine gate_store (t := 9) (p := 25) rfl ?_); refine store_event (t := 9) (p := 25) (v := ?vo_1) (w1 := (wc1.setCell ⟨g, x.toNat * 2 + 1, none⟩ (.string tm1))) ?hg ?ho ?hn ?hr ?_; (case ho => rfl); (case hg => rfl); (case hn => rfl); (case hr => first | (go_simp; done) | (go_simp; rfl)); intro ws1 hw; have n0_ : Aside0 (Same P wS ws1) := ⟨by rw [hw]; exact Same.put HS.out HP.out HG.out hx1 (.inr (.inl ⟨_, _, rfl, rfl⟩))⟩; have n1_ : Aside0 (Below w0.heap.size w0 ws1) := ⟨by rw [hw]; exact below_set HB.out GB.out⟩; clear HS HB hw; have HS := n0_; have HB := n1_; clear n0_ n1_; clear hx1 hf1))
      go_roundg (l0.length - x.toNat)
      case measure => have := HI.out; have := HI2.out; omega
      case rel => exact ⟨wrap64 (x + 1), wrap64 ((wrap64 (y + 1)) + 1), aR, aR, ⟨by have := HE.out; have := HY.out; omega, by have := HE.out; have := HY2.out; rw [HX2.out]; omega⟩, ⟨by rw [HX2.out]; have := HI.out; omega, by rw [HX2.out]; have := HI2.out; omega, by rw [HX2.out]; have := HI.out; have := HI2.out; omega⟩, ⟨(by repeat (first | (with_reducible first | exact HS.out | apply Same.alloc | apply Same.drewN | apply Same.drew) | exact HS.out))⟩, ⟨aB⟩⟩
    · have c3b0 : decide (x < (l0.length : Int)) = false := decide_eq_false hi
      have HI2 := Aside0.mk hi
      clear hi
      go_wp2
      go_ret
      exact ⟨ret_num (by have := HY.out; have := HI.out; have := HI2.out; omega), aB, (by repeat (first | (with_reducible first | exact HS.out | apply Same.alloc | apply Same.drewN | apply Same.drew) | exact HS.out))⟩
def laws_markItemS.cnt : List S74 → Int
  | [] => 0
  | x :: l => (3 + 2 * (x.f3.length : Int)) + laws_markItemS.cnt l
theorem laws_markItemS.cnt_drop (l : List S74) (x : Int) (h0 : 0 ≤ x) (h : x < (l.length : Int)) : laws_markItemS.cnt (l.drop x.toNat) = (3 + 2 * ((rd_T74 l x).f3.length : Int)) + laws_markItemS.cnt (l.drop (x + 1).toNat) := by
  obtain ⟨i, rfl⟩ := Int.eq_ofNat_of_zero_le h0
  have hi : i < l.length := by omega
  have e : rd_T74 l (i : Int) = l[i] := by unfold rd_T74; simp [List.getD_eq_getElem?_getD, hi]
  rw [e, Int.toNat_natCast, show ((i : Int) + 1).toNat = i + 1 by omega, List.drop_eq_getElem_cons hi]
  rfl
theorem laws_markItemS.cnt_pos (l : List S74) : 0 ≤ laws_markItemS.cnt l := by
  induction l with
  | nil => exact Int.le_refl _
  | cons x l ih => unfold laws_markItemS.cnt; omega
set_option maxHeartbeats 8000000 in
set_option maxRecDepth 100000 in
theorem laws_markItemS.outer (P Q : Nat → Prop) (u : Value) (l0 : List S74) (a1 : Int) (w0 wS w : World) (hB : Below w0.heap.size w0 w) (hS : Same P wS w) (hR : Kd.R k74 74 wS w0.heap.size Q u l0) (hQ : ∀ k, Q k → P k) (h0 : 0 ≤ a1) (h1 : a1 + laws_markItemS.cnt l0 ≤ 1000000000) :
    Calls Tryd.prog 27 #[u, .int .i64 a1] w fun e w' => e = .returned (.int .i64 (a1 + laws_markItemS.cnt l0)) ∧ Below w0.heap.size w0 w' ∧ Same P wS w' := by
  have hu74 := Tryd.underlying74
  obtain ⟨A0, c0, rfl⟩ := Kd.R_slice hR
  have HR := Aside0.mk hR
  have HQ := Aside0.mk hQ
  have HS := Aside0.mk hS
  have HB := Aside0.mk hB
  have H01 := Aside0.mk (And.intro h0 h1)
  clear hR hQ hS hB h0 h1
  go_enter Tryd.func27, Tryd.ntmps27
  go_wp2
  go_loopg [1, 5] (l0.length + 1) (fun kq v1 v5 w' => ∃ (x y : Int), v1 = .int .i64 y ∧ v5 = .int .i64 x ∧ Aside0 (a1 ≤ y ∧ y + laws_markItemS.cnt (l0.drop x.toNat) = a1 + laws_markItemS.cnt l0) ∧ Aside0 (0 ≤ x ∧ x ≤ (l0.length : Int) ∧ (l0.length : Int) < (kq : Int) + x) ∧ Aside0 (Same P wS w') ∧ Aside0 (Below w0.heap.size w0 w'))
  case atStart => exact ⟨0, a1, aR, aR, ⟨by omega, by rw [Int.toNat_zero, List.drop_zero]⟩, ⟨by omega, by omega, by omega⟩, ⟨(by repeat (first | (with_reducible first | exact HS.out | apply Same.alloc | apply Same.drewN | apply Same.drew) | exact HS.out))⟩, ⟨aB⟩⟩
  case round =>
    clear HS HB
    obtain ⟨x, y, rfl, rfl, HY, HI, HS, HB⟩ := hrel
    by_cases hi : x < (l0.length : Int)
    · have c3b0 : decide (x < (l0.length : Int)) = true := decide_eq_true hi
      have c5b0 : decide (0 ≤ x) = true := decide_eq_true HI.out.1
      have p6 : 0 ≤ x := HI.out.1
      have q6 : x < (l0.length : Int) := hi
      obtain ⟨g, cap, eo6, gb6, gl6, cl6, HG6⟩ := Kd.R_form HR.out (by omega)
      (first | cases eo6 | (injection eo6 with ea_ en_ ec_; (first | subst ea_ | (injection ea_ with ea_; subst ea_)); subst ec_; clear en_))
      have GB := Aside0.mk gb6
      have HG := Aside0.mk HG6
      have HP := Aside0.mk (HQ.out g (HR.out.1 g (by simp [Value.ownBlock])))
      clear gb6 gl6 HG6
      obtain ⟨ce, hcl, hM, hcc, hfr⟩ := Kd.R_elem HR.out z74 x p6 q6
      obtain ⟨v3, rfl, g3⟩ := k74_openM hM
      obtain ⟨A3, c3, rfl⟩ := Kd.R_slice g3
      have HV3 := Aside0.mk g3
      clear g3
      have HC0 : Aside0 (wS.cell? ⟨g, x.toNat * 4, none⟩ = some (.int .i64 (rd_T74 l0 x).f0)) := ⟨hcc 0 _ rfl⟩
      have HC1 : Aside0 (wS.cell? ⟨g, x.toNat * 4 + 1, none⟩ = some (.string (rd_T74 l0 x).f1)) := ⟨hcc 1 _ rfl⟩
      have HC2 : Aside0 (wS.cell? ⟨g, x.toNat * 4 + 2, none⟩ = some (.string (rd_T74 l0 x).f2)) := ⟨hcc 2 _ rfl⟩
      have HC3 : Aside0 (wS.cell? ⟨g, x.toNat * 4 + 3, none⟩ = some (.slice A3 (rd_T74 l0 x).f3.length c3)) := ⟨hcc 3 _ rfl⟩
      clear hcl hcc hfr hM
      have hcd := laws_markItemS.cnt_drop l0 x p6 q6
      have hcp := laws_markItemS.cnt_pos (l0.drop (x + 1).toNat)
      have hy := HY.out
      rw [hcd] at hy
      have h01 := H01.out
      have wv : ∀ z : Int, 0 ≤ z → z ≤ 1000000100 → wrap64 (z + 1) = z + 1 := fun z h1 h2 => by unfold wrap64; omega
      have wv1 : wrap64 (y + 1) = y + 1 := wv y (by omega) (by omega)
      have wv2 : wrap64 ((wrap64 (y + 1)) + 1) = y + 2 := by rw [wv1, wv (y + 1) (by omega) (by omega)]; omega
      have wv3 : wrap64 ((wrap64 ((wrap64 (y + 1)) + 1)) + 1) = y + 3 := by rw [wv2, wv (y + 2) (by omega) (by omega)]; omega
      obtain ⟨km0, tm0, am0⟩ := laws_markText_some (wrap64 (y + 1)) (by omega)
      have AM0 := Aside0.mk am0
      clear am0
      obtain ⟨km1, tm1, am1⟩ := laws_markText_some (wrap64 ((wrap64 (y + 1)) + 1)) (by omega)
      have AM1 := Aside0.mk am1
      clear am1
      have HZ3 : Aside0 (0 ≤ wrap64 ((wrap64 ((wrap64 (y + 1)) + 1)) + 1) ∧ wrap64 ((wrap64 ((wrap64 (y + 1)) + 1)) + 1) + 2 * ((rd_T74 l0 x).f3.length : Int) ≤ 1000000000) := ⟨by omega, by omega⟩
      have HE : Aside0 ((wrap64 ((wrap64 ((wrap64 (y + 1)) + 1)) + 1)) + 2 * ((rd_T74 l0 x).f3.length : Int) = y + (3 + 2 * ((rd_T74 l0 x).f3.length : Int))) := ⟨by omega⟩
      have HI2 := Aside0.mk hi
      have HY2 := Aside0.mk hy
      have hlen9 := (Kd.R_reads' HR.out).2.2.2.1
      have HX2 : Aside0 (wrap64 (x + 1) = x + 1) := ⟨by unfold wrap64; omega⟩
      clear hi hy h01 wv hlen9 wv1 wv2 wv3 hcd hcp
      replace p6 := eq_true p6
      replace q6 := eq_true q6
      obtain ⟨z0, hx0, hf0⟩ := Same.num HS.out HG.out HC0.out
      go_wp2_with (first | ((with_reducible refine gate_store (t := 2) (p := 16) rfl ?_); refine store_event (t := 2) (p := 16) (v := ?vo_0) (w1 := (wr.setCell ⟨g, x.toNat * 4, none⟩ (.int .i64 y))) ?hg ?ho ?hn ?hr ?_; (case ho => rfl); (case hg => rfl); (case hn => rfl); (case hr => first | (go_simp; done) | (go_simp; rfl)); intro ws0 hw; have n0_ : Aside0 (Same P wS ws0) := ⟨by rw [hw]; exact Same.put HS.out HP.out HG.out hx0 (.inr (.inr (.inl ⟨_, _, rfl, rfl⟩)))⟩; have n1_ : Aside0 (Below w0.heap.size w0 ws0) := ⟨by rw [hw]; exact below_set HB.out GB.out⟩; clear HS HB hw; have HS := n0_; have HB := n1_; clear n0_ n1_; clear hx0 hf0) | ((with_reducible refine gate_callee (f := 65) rfl ?_); refine goesL_ (some 22) rfl rfl Tryd.func65 (by kernel_rfl) rfl #[.int .i64 (wrap64 (y + 1))] rfl aG ?_; (with_reducible refine (laws_markText.calls km0 (wrap64 (y + 1)) tm0 _ AM0.out).mono ?_); rintro e wc1 ⟨rfl, hb⟩; refine ⟨_, rfl, ?_⟩; have n0_ : Aside0 (Same P wS wc1) := ⟨Same.below (by repeat (first | (with_reducible first | exact HS.out | apply Same.alloc | apply Same.drewN | apply Same.drew) | exact HS.out)) hb⟩; have n1_ : Aside0 (Below w0.heap.size w0 wc1) := ⟨below_step aB hb⟩; clear HS HB hb; have HS := n0_; have HB := n1_; clear n0_ n1_; obtain ⟨z1, hx1, hf1⟩ := Same.str HS.out HG.out HC1.out) | ((with_reducible refine gate_store (t := 9) (p := 24) rfl ?_); refine store_event (t := 9) (p := 24) (v := ?vo_1) (w1 := (wc1.setCell ⟨g, x.toNat * 4 + 1, none⟩ (.string tm0))) ?hg ?ho ?hn ?hr ?_; (case ho => rfl); (case hg => rfl); (case hn => rfl); (case hr => first | (go_simp; done) | (go_simp; rfl)); intro ws1 hw; have n0_ : Aside0 (Same P wS ws1) := ⟨by rw [hw]; exact Same.put HS.out HP.out HG.out hx1 (.inr (.inl ⟨_, _, rfl, rfl⟩))⟩; have n1_ : Aside0 (Below w0.heap.size w0 ws1) := ⟨by rw [hw]; exact below_set HB.out GB.out⟩; clear HS HB hw; have HS := n0_; have HB := n1_; clear n0_ n1_; clear hx1 hf1) | ((with_reducible refine gate_callee (f := 65) rfl ?_); refine goesL_ (some 30) rfl rfl Tryd.func65 (by kernel_rfl) rfl #[.int .i64 (wrap64 ((wrap64 (y + 1)) + 1))] rfl aG ?_; (with_reducible refine (laws_markText.calls km1 (wrap64 ((wrap64 (y + 1)) + 1)) tm1 _ AM1.out).mono ?_); rintro e wc2 ⟨rfl, hb⟩; refine ⟨_, rfl, ?_⟩; have n0_ : Aside0 (Same P wS wc2) := ⟨Same.below (by repeat (first | (with_reducible first | exact HS.out | apply Same.alloc | apply Same.drewN | apply Same.drew) | exact HS.out)) hb⟩; have n1_ : Aside0 (Below w0.heap.size w0 wc2) := ⟨below_step aB hb⟩; clear HS HB hb; have HS := n0_; have HB := n1_; clear n0_ n1_; obtain ⟨z2, hx2, hf2⟩ := Same.str HS.out HG.out HC2.out) | ((with_reducible refine gate_store (t := 9) (p := 32) rfl ?_); refine store_event (t := 9) (p := 32) (v := ?vo_2) (w1 := (wc2.setCell ⟨g, x.toNat * 4 + 2, none⟩ (.string tm1))) ?hg ?ho ?hn ?hr ?_; (case ho => rfl); (case hg => rfl); (case hn => rfl); (case hr => first | (go_simp; done) | (go_simp; rfl)); intro ws2 hw; have n0_ : Aside0 (Same P wS ws2) := ⟨by rw [hw]; exact Same.put HS.out HP.out HG.out hx2 (.inr (.inl ⟨_, _, rfl, rfl⟩))⟩; have n1_ : Aside0 (Below w0.heap.size w0 ws2) := ⟨by rw [hw]; exact below_set HB.out GB.out⟩; clear HS HB hw; have HS := n0_; have HB := n1_; clear n0_ n1_; clear hx2 hf2; have hx3 := Same.row HS.out HG.out HC3.out) | ((with_reducible refine gate_callee (f := 66) rfl ?_); refine goesL_ (some 41) rfl rfl Tryd.func66 (by kernel_rfl) rfl #[.slice A3 (rd_T74 l0 x).f3.length c3, .int .i64 (wrap64 ((wrap64 ((wrap64 (y + 1)) + 1)) + 1))] rfl aG ?_; (with_reducible refine (laws_markItemS.inner P _ (.slice A3 (rd_T74 l0 x).f3.length c3) (rd_T74 l0 x).f3 (wrap64 ((wrap64 ((wrap64 (y + 1)) + 1)) + 1)) w0 wS _ ?s1 ?s2 HV3.out (fun k hk => HQ.out k hk.1) HZ3.out.1 HZ3.out.2).mono ?_); (case s1 => exact aB); (case s2 => exact (by repeat (first | (with_reducible first | exact HS.out | apply Same.alloc | apply Same.drewN | apply Same.drew) | exact HS.out))); rintro e wr3_ ⟨rfl, hb, hs⟩; refine ⟨_, rfl, ?_⟩; have n0_ := Aside0.mk hs; have n1_ := Aside0.mk hb; clear HS HB hs hb hx3; have HS := n0_; have HB := n1_; clear n0_ n1_))
      go_roundg (l0.length - x.toNat)
      case measure => have := HI.out; have := HI2.out; omega
      case rel => exact ⟨wrap64 (x + 1), (wrap64 ((wrap64 ((wrap64 (y + 1)) + 1)) + 1)) + 2 * ((rd_T74 l0 x).f3.length : Int), aR, aR, ⟨by have := HE.out; have := HY2.out; have := HY.out; omega, by have := HE.out; have := HY2.out; rw [HX2.out]; omega⟩, ⟨by rw [HX2.out]; have := HI.out; omega, by rw [HX2.out]; have := HI2.out; omega, by rw [HX2.out]; have := HI.out; have := HI2.out; omega⟩, ⟨(by repeat (first | (with_reducible first | exact HS.out | apply Same.alloc | apply Same.drewN | apply Same.drew) | exact HS.out))⟩, ⟨aB⟩⟩
    · have c3b0 : decide (x < (l0.length : Int)) = false := decide_eq_false hi
      have HI2 := Aside0.mk hi
      clear hi
      go_wp2
      go_ret
      exact ⟨by have := HY.out; rw [List.drop_eq_nil_of_le (by have := HI.out; have := HI2.out; omega), show laws_markItemS.cnt [] = 0 from rfl] at this; exact ret_num (by omega), aB, (by repeat (first | (with_reducible first | exact HS.out | apply Same.alloc | apply Same.drewN | apply Same.drew) | exact HS.out))⟩
def laws_markItemS.f (l0 : List S74) (a1 : Int) : Option Int := if 0 ≤ a1 ∧ a1 + laws_markItemS.cnt l0 ≤ 1000000000 then some (a1 + laws_markItemS.cnt l0) else none
theorem laws_markItemS.calls (P0_ : Nat → Prop) (u9000_ : Value) (l0 : List S74) (a1 : Int) (r1 : Int) (w0 w : World) (hB : Below w0.heap.size w0 w) (ho0 : Kd.R k74 74 w w0.heap.size P0_ u9000_ l0) (h : laws_markItemS.f l0 a1 = some r1) :
    Calls Tryd.prog 27 #[u9000_, .int .i64 a1] w fun e w' => e = .returned (.int .i64 r1) ∧ Below w0.heap.size w0 w' ∧ Kept w w' (fun k_ => P0_ k_) := by
  unfold laws_markItemS.f at h
  split at h
  · rename_i hh
    obtain rfl := Option.some.inj h
    exact (laws_markItemS.outer P0_ P0_ u9000_ l0 a1 w0 w w hB (Same.refl _ _) ho0 (fun _ h => h) hh.1 hh.2).mono fun e w' ⟨he, hb, hs⟩ => ⟨he, hb, hs.kept⟩
  · cases h
end

/-! ### spec_l1In: function 49 -/
def spec_l1In.f (a0 : Int) (a1 : Int) (a2 : Int) : Option (Bool) := if a0 ≥ a1 then (some (decide (a0 ≤ a2))) else (some false)
set_option maxHeartbeats 8000000 in
set_option maxRecDepth 100000 in
theorem spec_l1In.calls (a0 : Int) (a1 : Int) (a2 : Int) (r : Bool) (w : World) (h : spec_l1In.f a0 a1 a2 = some r) :
  Calls Tryd.prog 49 #[.int .i64 a0, .int .i64 a1, .int .i64 a2] w fun e w' => e = .returned (.bool r) ∧ Drawn0 w w' := by
 have H : (if a0 ≥ a1 then (some (decide (a0 ≤ a2))) else (some false)) = some r := h
 clear h
 by_cases c4 : a0 ≥ a1
 ·rw [if_pos c4] at H
  have c4b0 : decide (a1 ≤ a0) = true := decide_eq_true c4
  clear c4
  obtain rfl := Option.some.inj H
  go_enter Tryd.func49, Tryd.ntmps49
  go_wp2
  go_ret
  exact ⟨by first | rfl | (simp; done) | (simp [*]; done), by repeat (first | exact Drawn0.refl _ | apply Drawn0.step)⟩
 ·rw [if_neg c4] at H
  have c4b0 : decide (a1 ≤ a0) = false := decide_eq_false c4
  clear c4
  obtain rfl := Option.some.inj H
  go_enter Tryd.func49, Tryd.ntmps49
  go_wp2
  go_ret
  exact ⟨by first | rfl | (simp; done) | (simp [*]; done), by repeat (first | exact Drawn0.refl _ | apply Drawn0.step)⟩

/-! ### spec_l1Char: function 117 -/
def spec_l1Char.f (a0 : Int) : Option (Bool) := (spec_l1In.f a0 0 55295).bind fun t149 => (if t149 = true then (some true) else ((spec_l1In.f a0 57344 1114111).bind fun t150 => (some t150)))
set_option maxHeartbeats 8000000 in
set_option maxRecDepth 100000 in
theorem spec_l1Char.calls (a0 : Int) (r : Bool) (w : World) (h : spec_l1Char.f a0 = some r) :
  Calls Tryd.prog 117 #[.int .i64 a0] w fun e w' => e = .returned (.bool r) ∧ Drawn0 w w' := by
 have H : ((spec_l1In.f a0 0 55295).bind fun t149 => (if t149 = true then (some true) else ((spec_l1In.f a0 57344 1114111).bind fun t150 => (some t150)))) = some r := h
 clear h
 replace H := Option.bind_eq_some_iff.mp H
 obtain ⟨t149, A20, H⟩ := H
 replace H : (if t149 = true then (some true) else ((spec_l1In.f a0 57344 1114111).bind fun t150 => (some t150))) = some r := H
 have A2 := Aside0.mk A20
 clear A20
 by_cases c3 : t149 = true
 ·subst c3
  have H1 : (some true) = some r := by rw [if_pos rfl] at H; exact H
  clear H
  have H := H1
  clear H1
  obtain rfl := Option.some.inj H
  go_enter Tryd.func117, Tryd.ntmps117
  go_wp2_with (first | ((with_reducible refine gate_callee (f := 49) rfl ?_); refine goesL_ (some 4) rfl rfl Tryd.func49 (by kernel_rfl) rfl #[.int .i64 a0, .int .i64 0, .int .i64 55295] rfl aG ?_; (with_reducible refine (spec_l1In.calls a0 0 55295 true _ A2.out).mono ?_); rintro e w' ⟨rfl, ⟨nd, rfl⟩⟩; refine ⟨_, rfl, ?_⟩))
  go_ret
  exact ⟨by first | rfl | (simp; done) | (simp [*]; done), by repeat (first | exact Drawn0.refl _ | apply Drawn0.step)⟩
 ·replace c3 := Bool.eq_false_iff.mpr c3
  subst c3
  have H1 : ((spec_l1In.f a0 57344 1114111).bind fun t150 => (some t150)) = some r := by rw [if_neg (show ¬ (false = true) by decide)] at H; exact H
  clear H
  have H := H1
  clear H1
  replace H := Option.bind_eq_some_iff.mp H
  obtain ⟨t150, A40, H⟩ := H
  replace H : (some t150) = some r := H
  have A4 := Aside0.mk A40
  clear A40
  obtain rfl := Option.some.inj H
  go_enter Tryd.func117, Tryd.ntmps117
  go_wp2_with (first | ((with_reducible refine gate_callee (f := 49) rfl ?_); refine goesL_ (some 4) rfl rfl Tryd.func49 (by kernel_rfl) rfl #[.int .i64 a0, .int .i64 0, .int .i64 55295] rfl aG ?_; (with_reducible refine (spec_l1In.calls a0 0 55295 false _ A2.out).mono ?_); rintro e w' ⟨rfl, ⟨nd, rfl⟩⟩; refine ⟨_, rfl, ?_⟩) | (go_at_call 49; (with_reducible refine (spec_l1In.calls a0 57344 1114111 t150 _ A4.out).mono ?_); rintro e w' ⟨rfl, ⟨nd, rfl⟩⟩))
  go_ret
  exact ⟨by first | rfl | (simp; done) | (simp [*]; done), by repeat (first | exact Drawn0.refl _ | apply Drawn0.step)⟩

end Go.Proofs.YtbhklkpjjpkblaaDoor.PJ
