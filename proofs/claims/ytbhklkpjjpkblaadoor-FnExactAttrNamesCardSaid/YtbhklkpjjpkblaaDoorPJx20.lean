-- Printed by this session's pdrive.py over the kit's printer.
import Derived.Test.YtbhklkpjjpkblaaDoorHShort
import Derived.Test.YtbhklkpjjpkblaaDoorPJx0
import Derived.Test.YtbhklkpjjpkblaaDoorPJx2
import Derived.Test.YtbhklkpjjpkblaaDoorPJx3
import Derived.Test.YtbhklkpjjpkblaaDoorPJx4
import Derived.Test.YtbhklkpjjpkblaaDoorPJx10
import Derived.Test.YtbhklkpjjpkblaaDoorPJx18
import Derived.Test.YtbhklkpjjpkblaaDoorPJx19
namespace Go.Proofs.YtbhklkpjjpkblaaDoor.PJ
open Go.RowKit Go.Proofs.YtbhklkpjjpkblaaDoorW.PrintWords Go.Proofs.YtbhklkpjjpkblaaDoorW.PrintLast Go.Proofs.YtbhklkpjjpkblaaDoorW.PrintMore Go.Proofs.YtbhklkpjjpkblaaDoorW.WordsB Go.Proofs.YtbhklkpjjpkblaaDoorW.GlM Go.Proofs.YtbhklkpjjpkblaaDoorW.Short
attribute [local go_sem] max2_int min2_int max_two min_two max_three min_three max_four min_four   -- for this text's walks alone
set_option linter.unusedVariables false
set_option linter.unusedSimpArgs false

/-! ### laws_FnExactAttrNames: function 9 -/
mutual
def laws_FnExactAttrNames.j0 : Nat → List (S71) → Int → List (S92) → Bool → List (S74) → List (S92) → Bool → Bool → Option (Bool)
 | 0, _, _, _, _, _, _, _, _ => none
 | k + 1, x0, x1, x6, x7, x8, x9, x10, x44 => if x44 = true then (some false) else ((laws_toItemS.f k x0).bind fun t354 => ((laws_eqItemS.f k x8 t354).bind fun t357 => (if t357 = true then ((laws_markItemS.f x8 1).bind fun t358 => (if t358 < 0 then (laws_FnExactAttrNames.j1 k x0 x1 x6 x7 x9 true) else ((laws_eqQNameS.f k x9 x6).bind fun t359 => (if t359 = true then (laws_FnExactAttrNames.j1 k x0 x1 x6 x7 x9 (x10 != x7)) else (laws_FnExactAttrNames.j1 k x0 x1 x6 x7 x9 true))))) else (some false))))
def laws_FnExactAttrNames.j1 : Nat → List (S71) → Int → List (S92) → Bool → List (S92) → Bool → Option (Bool)
 | 0, _, _, _, _, _, _ => none
 | k + 1, x0, x1, x6, x7, x9, x65 => if x65 = true then (some false) else ((laws_markQNameS.f k x9 1).bind fun bt360 => ((laws_heldQNameS.f k bt360.2 1).bind fun t362 => (if t362 < 0 then (some false) else (if t362 = bt360.1 then ((laws_toItemS.f k x0).bind fun t363 => ((impl_AttrNames.f k t363 x1).bind fun bt366 => ((laws_eqQNameS.f k bt366.1 x6).bind fun t370 => (if t370 = true then (laws_FnExactAttrNames.j2 k bt360.2 bt360.1 (bt366.2 != x7)) else (laws_FnExactAttrNames.j2 k bt360.2 bt360.1 true))))) else (some false)))))
def laws_FnExactAttrNames.j2 : Nat → List (S92) → Int → Bool → Option (Bool)
 | 0, _, _, _ => none
 | k + 1, x9, x12, x92 => if x92 = true then (some false) else ((laws_heldQNameS.f k x9 1).bind fun t371 => (if t371 < 0 then (some false) else (if t371 = x12 then (some true) else (some false))))
end
def laws_FnExactAttrNames.f (k : Nat) (l0 : List (S71)) (a1 : Int) : Option (Bool) := (laws_szItemS.f k l0 1048576).bind fun t338 => (if t338 < 0 then (some true) else ((laws_toItemS.f k l0).bind fun t339 => ((spec_AttrNames.f k t339 a1).bind fun bt342 => ((laws_toItemS.f k l0).bind fun t346 => ((impl_AttrNames.f k t346 a1).bind fun bt349 => ((laws_eqQNameS.f k bt349.1 bt342.1).bind fun t353 => (if t353 = true then (laws_FnExactAttrNames.j0 k l0 a1 bt342.1 bt342.2 t346 bt349.1 bt349.2 (bt349.2 != bt342.2)) else (laws_FnExactAttrNames.j0 k l0 a1 bt342.1 bt342.2 t346 bt349.1 bt349.2 true))))))))
set_option maxHeartbeats 8000000 in
set_option maxRecDepth 100000 in
theorem laws_FnExactAttrNames.calls (k : Nat) (A0 : Option Addr) (c0 : Nat) (l0 : List (S71)) (a1 : Int) (r : Bool) (w : World) (hgl : GL w) (hr0 : Kd.C k71 w A0 l0.length l0) (hc0 : l0.length ≤ c0) (h : laws_FnExactAttrNames.f k l0 a1 = some r) :
  Calls Tryd.prog 9 #[.slice A0 l0.length c0, .int .i64 a1] w fun e w' => e = .returned (.bool r) ∧ Below w.heap.size w w' := by
 have HGL := Aside0.mk hgl
 clear hgl
 have HR0 := Aside0.mk hr0
 have HC0 := Aside0.mk hc0
 clear hr0 hc0
 have HB := Aside0.mk (Below.refl w.heap.size w)
 have H : ((laws_szItemS.f k l0 1048576).bind fun t338 => (if t338 < 0 then (some true) else ((laws_toItemS.f k l0).bind fun t339 => ((spec_AttrNames.f k t339 a1).bind fun bt342 => ((laws_toItemS.f k l0).bind fun t346 => ((impl_AttrNames.f k t346 a1).bind fun bt349 => ((laws_eqQNameS.f k bt349.1 bt342.1).bind fun t353 => (if t353 = true then (laws_FnExactAttrNames.j0 k l0 a1 bt342.1 bt342.2 t346 bt349.1 bt349.2 (bt349.2 != bt342.2)) else (laws_FnExactAttrNames.j0 k l0 a1 bt342.1 bt342.2 t346 bt349.1 bt349.2 true))))))))) = some r := h
 clear h
 replace H := Option.bind_eq_some_iff.mp H
 obtain ⟨t338, A30, H⟩ := H
 replace H : (if t338 < 0 then (some true) else ((laws_toItemS.f k l0).bind fun t339 => ((spec_AttrNames.f k t339 a1).bind fun bt342 => ((laws_toItemS.f k l0).bind fun t346 => ((impl_AttrNames.f k t346 a1).bind fun bt349 => ((laws_eqQNameS.f k bt349.1 bt342.1).bind fun t353 => (if t353 = true then (laws_FnExactAttrNames.j0 k l0 a1 bt342.1 bt342.2 t346 bt349.1 bt349.2 (bt349.2 != bt342.2)) else (laws_FnExactAttrNames.j0 k l0 a1 bt342.1 bt342.2 t346 bt349.1 bt349.2 true)))))))) = some r := H
 have A3 := Aside0.mk A30
 clear A30
 by_cases c4 : t338 < 0
 ·rw [if_pos c4] at H
  have c4b0 : decide (t338 < 0) = true := decide_eq_true c4
  clear c4
  obtain rfl := Option.some.inj H
  go_enter Tryd.func9, Tryd.ntmps9
  go_wp2_with (first | ((with_reducible refine gate_callee (f := 15) rfl ?_); refine goesL_ (some 18) rfl rfl Tryd.func15 (by kernel_rfl) rfl #[.slice A0 l0.length c0, .int .i64 1048576] rfl aG ?_; (with_reducible refine (laws_szItemS.calls k _ _ l0 1048576 t338 _ ?side1 ?side2 A3.out).mono ?_); (case side1 => repeat (first | exact HR0.out | (with_reducible refine Kd.C_alloc ?_ _) | (with_reducible refine Kd.C_drewN ?_ _) | (with_reducible refine Kd.C_drew ?_))); (case side2 => exact HC0.out); rintro e w5 ⟨rfl, hb⟩; refine ⟨_, rfl, ?_⟩; have n0_ := Aside0.mk (below_step aB hb); clear HB; have HB := n0_; clear n0_; (try clear hb); (try clear hb2); (try clear hk); (try clear hi)))
  go_ret
  exact ⟨aS, aB⟩
 ·rw [if_neg c4] at H
  have c4b0 : decide (t338 < 0) = false := decide_eq_false c4
  clear c4
  replace H := Option.bind_eq_some_iff.mp H
  obtain ⟨t339, A60, H⟩ := H
  replace H : ((spec_AttrNames.f k t339 a1).bind fun bt342 => ((laws_toItemS.f k l0).bind fun t346 => ((impl_AttrNames.f k t346 a1).bind fun bt349 => ((laws_eqQNameS.f k bt349.1 bt342.1).bind fun t353 => (if t353 = true then (laws_FnExactAttrNames.j0 k l0 a1 bt342.1 bt342.2 t346 bt349.1 bt349.2 (bt349.2 != bt342.2)) else (laws_FnExactAttrNames.j0 k l0 a1 bt342.1 bt342.2 t346 bt349.1 bt349.2 true)))))) = some r := H
  have A6 := Aside0.mk A60
  clear A60
  replace H := Option.bind_eq_some_iff.mp H
  obtain ⟨⟨t342, t343⟩, A70, H⟩ := H
  replace H : ((laws_toItemS.f k l0).bind fun t346 => ((impl_AttrNames.f k t346 a1).bind fun bt349 => ((laws_eqQNameS.f k bt349.1 t342).bind fun t353 => (if t353 = true then (laws_FnExactAttrNames.j0 k l0 a1 t342 t343 t346 bt349.1 bt349.2 (bt349.2 != t343)) else (laws_FnExactAttrNames.j0 k l0 a1 t342 t343 t346 bt349.1 bt349.2 true))))) = some r := H
  have A7 := Aside0.mk A70
  clear A70
  replace H := Option.bind_eq_some_iff.mp H
  obtain ⟨t346, A80, H⟩ := H
  replace H : ((impl_AttrNames.f k t346 a1).bind fun bt349 => ((laws_eqQNameS.f k bt349.1 t342).bind fun t353 => (if t353 = true then (laws_FnExactAttrNames.j0 k l0 a1 t342 t343 t346 bt349.1 bt349.2 (bt349.2 != t343)) else (laws_FnExactAttrNames.j0 k l0 a1 t342 t343 t346 bt349.1 bt349.2 true)))) = some r := H
  have A8 := Aside0.mk A80
  clear A80
  replace H := Option.bind_eq_some_iff.mp H
  obtain ⟨⟨t349, t350⟩, A90, H⟩ := H
  replace H : ((laws_eqQNameS.f k t349 t342).bind fun t353 => (if t353 = true then (laws_FnExactAttrNames.j0 k l0 a1 t342 t343 t346 t349 t350 (t350 != t343)) else (laws_FnExactAttrNames.j0 k l0 a1 t342 t343 t346 t349 t350 true))) = some r := H
  have A9 := Aside0.mk A90
  clear A90
  have HC10 := Aside0.mk H
  clear H
  go_enter Tryd.func9, Tryd.ntmps9
  go_upto_region 8 with (first | ((with_reducible refine gate_callee (f := 15) rfl ?_); refine goesL_ (some 18) rfl rfl Tryd.func15 (by kernel_rfl) rfl #[.slice A0 l0.length c0, .int .i64 1048576] rfl aG ?_; (with_reducible refine (laws_szItemS.calls k _ _ l0 1048576 t338 _ ?side1 ?side2 A3.out).mono ?_); (case side1 => repeat (first | exact HR0.out | (with_reducible refine Kd.C_alloc ?_ _) | (with_reducible refine Kd.C_drewN ?_ _) | (with_reducible refine Kd.C_drew ?_))); (case side2 => exact HC0.out); rintro e w11 ⟨rfl, hb⟩; refine ⟨_, rfl, ?_⟩; have n0_ := Aside0.mk (below_step aB hb); clear HB; have HB := n0_; clear n0_; (try clear hb); (try clear hb2); (try clear hk); (try clear hi)) | ((with_reducible refine gate_callee (f := 17) rfl ?_); refine goesL_ (some 23) rfl rfl Tryd.func17 (by kernel_rfl) rfl #[.slice A0 l0.length c0] rfl aG ?_; (with_reducible refine (laws_toItemS.calls k _ _ l0 t339 _ ?side1 ?side2 A6.out).mono ?_); (case side1 => repeat (first | exact (Kd.C_below HR0.out HB.out) | (with_reducible refine Kd.C_alloc ?_ _) | (with_reducible refine Kd.C_drewN ?_ _) | (with_reducible refine Kd.C_drew ?_))); (case side2 => exact HC0.out); rintro e w12 ⟨v340, rfl, ho0, hb⟩; refine ⟨_, rfl, ?_⟩; have n0_ := Aside0.mk (Kd.S_lower ho0 (below_size aB)); have n1_ := Aside0.mk (below_step aB hb); clear HB; have HO341 := n0_; have HB := n1_; clear n0_ n1_; (try clear hb); (try clear hb2); (try clear hk); (try clear hi); (try clear ho0); obtain ⟨Ao13, co13, eo13⟩ := Kd.S_slice HO341.out; subst eo13) | ((with_reducible refine gate_callee (f := 30) rfl ?_); refine goesL_ (some 25) rfl rfl Tryd.func30 (by kernel_rfl) rfl #[.slice Ao13 t339.length co13, .int .i64 a1] rfl aG ?_; (with_reducible refine (spec_AttrNames.calls k _ _ t339 a1 t342 t343 _ ?side1 ?side2 A7.out).mono ?_); (case side1 => repeat (first | exact (Kd.S_reads' HO341.out).2.2 | (with_reducible refine Kd.C_alloc ?_ _) | (with_reducible refine Kd.C_drewN ?_ _) | (with_reducible refine Kd.C_drew ?_))); (case side2 => exact (Kd.S_reads' HO341.out).2.1); rintro e w14 ⟨v344, rfl, ho0, hb⟩; refine ⟨_, rfl, ?_⟩; have n0_ := Aside0.mk (Kd.S_below (by (with_reducible repeat (first | apply Kd.S_alloc | apply Kd.S_drewN | apply Kd.S_drew)); exact HO341.out) hb); have n1_ := Aside0.mk (Kd.R_lower ho0 (below_size aB)); have n2_ := Aside0.mk (below_step aB hb); clear HO341; clear HB; have HO341 := n0_; have HO345 := n1_; have HB := n2_; clear n0_ n1_ n2_; (try clear hb); (try clear hb2); (try clear hk); (try clear hi); (try clear ho0)) | ((with_reducible refine gate_callee (f := 17) rfl ?_); refine goesL_ (some 29) rfl rfl Tryd.func17 (by kernel_rfl) rfl #[.slice A0 l0.length c0] rfl aG ?_; (with_reducible refine (laws_toItemS.calls k _ _ l0 t346 _ ?side1 ?side2 A8.out).mono ?_); (case side1 => repeat (first | exact (Kd.C_below HR0.out HB.out) | (with_reducible refine Kd.C_alloc ?_ _) | (with_reducible refine Kd.C_drewN ?_ _) | (with_reducible refine Kd.C_drew ?_))); (case side2 => exact HC0.out); rintro e w15 ⟨v347, rfl, ho0, hb⟩; refine ⟨_, rfl, ?_⟩; have n0_ := Aside0.mk (Kd.S_elder' (by (with_reducible repeat (first | apply Kd.S_alloc | apply Kd.S_drewN | apply Kd.S_drew)); exact HO341.out) (Kd.S_base ho0) hb); have n1_ := Aside0.mk (Kd.R_below (aP HO345.out) hb); have n2_ := Aside0.mk (Kd.S_lower (Kd.S_new' ho0 (Kd.S_lt (by (with_reducible repeat (first | apply Kd.S_alloc | apply Kd.S_drewN | apply Kd.S_drew)); exact HO341.out))) (below_size aB)); have n3_ := Aside0.mk (below_step aB hb); clear HO341; clear HO345; clear HB; have HO341 := n0_; have HO345 := n1_; have HO348 := n2_; have HB := n3_; clear n0_ n1_ n2_ n3_; (try clear hb); (try clear hb2); (try clear hk); (try clear hi); (try clear ho0); obtain ⟨Ao16, co16, eo16⟩ := Kd.S_slice HO348.out; subst eo16) | ((with_reducible refine gate_callee (f := 31) rfl ?_); refine goesL_ (some 33) rfl rfl Tryd.func31 (by kernel_rfl) rfl #[.slice Ao16 t346.length co16, .int .i64 a1] rfl aG ?_; (with_reducible refine (impl_AttrNames.calls k _ _ t346 a1 t349 t350 _ ?side1 ?side2 ?side3 A9.out).mono ?_); (case side1 => exact GL.below HGL.out aB); (case side2 => repeat (first | exact (Kd.S_reads' HO348.out).2.2 | (with_reducible refine Kd.C_alloc ?_ _) | (with_reducible refine Kd.C_drewN ?_ _) | (with_reducible refine Kd.C_drew ?_))); (case side3 => exact (Kd.S_reads' HO348.out).2.1); rintro e w17 ⟨v351, rfl, ho0, hb⟩; refine ⟨_, rfl, ?_⟩; have n0_ := Aside0.mk (Kd.S_below (by (with_reducible repeat (first | apply Kd.S_alloc | apply Kd.S_drewN | apply Kd.S_drew)); exact HO341.out) hb); have n1_ := Aside0.mk (Kd.R_elder' (aP HO345.out) (Kd.R_base ho0) hb); have n2_ := Aside0.mk (Kd.S_below (by (with_reducible repeat (first | apply Kd.S_alloc | apply Kd.S_drewN | apply Kd.S_drew)); exact HO348.out) hb); have n3_ := Aside0.mk (Kd.R_lower (Kd.R_new' ho0 (Kd.R_lt (aP HO345.out))) (below_size aB)); have n4_ := Aside0.mk (below_step aB hb); clear HO341; clear HO345; clear HO348; clear HB; have HO341 := n0_; have HO345 := n1_; have HO348 := n2_; have HO352 := n3_; have HB := n4_; clear n0_ n1_ n2_ n3_ n4_; (try clear hb); (try clear hb2); (try clear hk); (try clear hi); (try clear ho0)))
  (try simp only [Act.put, List.setIfInBounds_toArray, List.set_cons_zero, List.set_cons_succ])
  go_cut [44] (fun v44 wc => ∃ (kq : Nat) (x44_9 : Bool), v44 = .bool x44_9 ∧ Aside0 (laws_FnExactAttrNames.j0 kq l0 a1 t342 t343 t346 t349 t350 x44_9 = some r) ∧ Aside0 (kq ≤ k) ∧ Aside0 (Kd.R k92 92 wc w.heap.size (fun k_ => some k_ ≠ (v351 : Value).ownBlock) v344 t342) ∧ Aside0 (Kd.S k74 74 wc w.heap.size (fun _ => True) (.slice Ao16 t346.length co16) t346) ∧ Aside0 (Kd.R k92 92 wc w.heap.size (fun k_ => some k_ ≠ (v344 : Value).ownBlock) v351 t349) ∧ Aside0 (Below w.heap.size w wc))
  case first =>
   have H := HC10.out
   clear HC10
   replace H := Option.bind_eq_some_iff.mp H
   obtain ⟨t353, A180, H⟩ := H
   replace H : (if t353 = true then (laws_FnExactAttrNames.j0 k l0 a1 t342 t343 t346 t349 t350 (t350 != t343)) else (laws_FnExactAttrNames.j0 k l0 a1 t342 t343 t346 t349 t350 true)) = some r := H
   have A18 := Aside0.mk A180
   clear A180
   by_cases c19 : t353 = true
   ·subst c19
    have H1 : (laws_FnExactAttrNames.j0 k l0 a1 t342 t343 t346 t349 t350 (t350 != t343)) = some r := by rw [if_pos rfl] at H; exact H
    clear H
    have H := H1
    clear H1
    have H' := Aside0.mk H
    clear H
    obtain ⟨Ao20, co20, eo20⟩ := Kd.R_slice HO352.out
    subst eo20
    obtain ⟨Ao21, co21, eo21⟩ := Kd.R_slice HO345.out
    subst eo21
    go_wp2_with (first | ((with_reducible refine gate_callee (f := 32) rfl ?_); refine goesL_ (some 38) rfl rfl Tryd.func32 (by kernel_rfl) rfl #[.slice Ao20 t349.length co20, .slice Ao21 t342.length co21] rfl aG ?_; (with_reducible refine (laws_eqQNameS.calls k _ _ t349 _ _ t342 true _ ?side1 ?side2 ?side3 ?side4 A18.out).mono ?_); (case side1 => repeat (first | exact (Kd.R_reads' HO352.out).2.2 | (with_reducible refine Kd.C_alloc ?_ _) | (with_reducible refine Kd.C_drewN ?_ _) | (with_reducible refine Kd.C_drew ?_))); (case side2 => exact (Kd.R_reads' HO352.out).2.1); (case side3 => repeat (first | exact (Kd.R_reads' HO345.out).2.2 | (with_reducible refine Kd.C_alloc ?_ _) | (with_reducible refine Kd.C_drewN ?_ _) | (with_reducible refine Kd.C_drew ?_))); (case side4 => exact (Kd.R_reads' HO345.out).2.1); rintro e w22 ⟨rfl, hb⟩; refine ⟨_, rfl, ?_⟩; have n0_ := Aside0.mk (Kd.S_below (by (with_reducible repeat (first | apply Kd.S_alloc | apply Kd.S_drewN | apply Kd.S_drew)); exact HO341.out) hb); have n1_ := Aside0.mk (Kd.R_below (aP HO345.out) hb); have n2_ := Aside0.mk (Kd.S_below (by (with_reducible repeat (first | apply Kd.S_alloc | apply Kd.S_drewN | apply Kd.S_drew)); exact HO348.out) hb); have n3_ := Aside0.mk (Kd.R_below (aP HO352.out) hb); have n4_ := Aside0.mk (below_step aB hb); clear HO341; clear HO345; clear HO348; clear HO352; clear HB; have HO341 := n0_; have HO345 := n1_; have HO348 := n2_; have HO352 := n3_; have HB := n4_; clear n0_ n1_ n2_ n3_ n4_; (try clear hb); (try clear hb2); (try clear hk); (try clear hi)))
    go_meet
    case rel => exact ⟨_, ((t350 != t343)), aR, H', ⟨by first | omega | exact Nat.le_refl _⟩, ⟨by (with_reducible repeat (first | apply Kd.R_alloc | apply Kd.R_drewN | apply Kd.R_drew)); exact Kd.R_mono HO345.out (fun _ hk => hk.2)⟩, ⟨by (with_reducible repeat (first | apply Kd.S_alloc | apply Kd.S_drewN | apply Kd.S_drew)); exact Kd.S_mono HO348.out (fun _ hk => trivial)⟩, ⟨by (with_reducible repeat (first | apply Kd.R_alloc | apply Kd.R_drewN | apply Kd.R_drew)); exact Kd.R_mono HO352.out (fun _ hk => hk.2)⟩, ⟨aB⟩⟩
   ·replace c19 := Bool.eq_false_iff.mpr c19
    subst c19
    have H1 : (laws_FnExactAttrNames.j0 k l0 a1 t342 t343 t346 t349 t350 true) = some r := by rw [if_neg (show ¬ (false = true) by decide)] at H; exact H
    clear H
    have H := H1
    clear H1
    have H' := Aside0.mk H
    clear H
    obtain ⟨Ao23, co23, eo23⟩ := Kd.R_slice HO352.out
    subst eo23
    obtain ⟨Ao24, co24, eo24⟩ := Kd.R_slice HO345.out
    subst eo24
    go_wp2_with (first | ((with_reducible refine gate_callee (f := 32) rfl ?_); refine goesL_ (some 38) rfl rfl Tryd.func32 (by kernel_rfl) rfl #[.slice Ao23 t349.length co23, .slice Ao24 t342.length co24] rfl aG ?_; (with_reducible refine (laws_eqQNameS.calls k _ _ t349 _ _ t342 false _ ?side1 ?side2 ?side3 ?side4 A18.out).mono ?_); (case side1 => repeat (first | exact (Kd.R_reads' HO352.out).2.2 | (with_reducible refine Kd.C_alloc ?_ _) | (with_reducible refine Kd.C_drewN ?_ _) | (with_reducible refine Kd.C_drew ?_))); (case side2 => exact (Kd.R_reads' HO352.out).2.1); (case side3 => repeat (first | exact (Kd.R_reads' HO345.out).2.2 | (with_reducible refine Kd.C_alloc ?_ _) | (with_reducible refine Kd.C_drewN ?_ _) | (with_reducible refine Kd.C_drew ?_))); (case side4 => exact (Kd.R_reads' HO345.out).2.1); rintro e w25 ⟨rfl, hb⟩; refine ⟨_, rfl, ?_⟩; have n0_ := Aside0.mk (Kd.S_below (by (with_reducible repeat (first | apply Kd.S_alloc | apply Kd.S_drewN | apply Kd.S_drew)); exact HO341.out) hb); have n1_ := Aside0.mk (Kd.R_below (aP HO345.out) hb); have n2_ := Aside0.mk (Kd.S_below (by (with_reducible repeat (first | apply Kd.S_alloc | apply Kd.S_drewN | apply Kd.S_drew)); exact HO348.out) hb); have n3_ := Aside0.mk (Kd.R_below (aP HO352.out) hb); have n4_ := Aside0.mk (below_step aB hb); clear HO341; clear HO345; clear HO348; clear HO352; clear HB; have HO341 := n0_; have HO345 := n1_; have HO348 := n2_; have HO352 := n3_; have HB := n4_; clear n0_ n1_ n2_ n3_ n4_; (try clear hb); (try clear hb2); (try clear hk); (try clear hi)))
    go_meet
    case rel => exact ⟨_, (true), aR, H', ⟨by first | omega | exact Nat.le_refl _⟩, ⟨by (with_reducible repeat (first | apply Kd.R_alloc | apply Kd.R_drewN | apply Kd.R_drew)); exact Kd.R_mono HO345.out (fun _ hk => hk.2)⟩, ⟨by (with_reducible repeat (first | apply Kd.S_alloc | apply Kd.S_drewN | apply Kd.S_drew)); exact Kd.S_mono HO348.out (fun _ hk => trivial)⟩, ⟨by (with_reducible repeat (first | apply Kd.R_alloc | apply Kd.R_drewN | apply Kd.R_drew)); exact Kd.R_mono HO352.out (fun _ hk => hk.2)⟩, ⟨aB⟩⟩
  case rest =>
   clear HC10
   try clear c1
   try clear p2
   try clear c3
   try clear c4
   try clear c4b0
   try clear c9
   try clear c15
   try clear c17
   try clear c19
   obtain ⟨kq, x44_9, rfl, HA, HJ9, HO_6, HO_8, HO_9, HB⟩ := hcut
   cases kq with
   | zero => exact absurd HA.out (by simp [laws_FnExactAttrNames.j0])
   | succ kj9 =>
    have H := HA.out
    clear HA
    simp only [laws_FnExactAttrNames.j0] at H
    by_cases c26 : x44_9 = true
    ·subst c26
     have H1 : (some false) = some r := by rw [if_pos rfl] at H; exact H
     clear H
     have H := H1
     clear H1
     obtain rfl := Option.some.inj H
     go_wp2
     go_ret
     exact ⟨aS, aB⟩
    ·replace c26 := Bool.eq_false_iff.mpr c26
     subst c26
     have H1 : ((laws_toItemS.f kj9 l0).bind fun t354 => ((laws_eqItemS.f kj9 t346 t354).bind fun t357 => (if t357 = true then ((laws_markItemS.f t346 1).bind fun t358 => (if t358 < 0 then (laws_FnExactAttrNames.j1 kj9 l0 a1 t342 t343 t349 true) else ((laws_eqQNameS.f kj9 t349 t342).bind fun t359 => (if t359 = true then (laws_FnExactAttrNames.j1 kj9 l0 a1 t342 t343 t349 (t350 != t343)) else (laws_FnExactAttrNames.j1 kj9 l0 a1 t342 t343 t349 true))))) else (some false)))) = some r := by rw [if_neg (show ¬ (false = true) by decide)] at H; exact H
     clear H
     have H := H1
     clear H1
     replace H := Option.bind_eq_some_iff.mp H
     obtain ⟨t354, A270, H⟩ := H
     replace H : ((laws_eqItemS.f kj9 t346 t354).bind fun t357 => (if t357 = true then ((laws_markItemS.f t346 1).bind fun t358 => (if t358 < 0 then (laws_FnExactAttrNames.j1 kj9 l0 a1 t342 t343 t349 true) else ((laws_eqQNameS.f kj9 t349 t342).bind fun t359 => (if t359 = true then (laws_FnExactAttrNames.j1 kj9 l0 a1 t342 t343 t349 (t350 != t343)) else (laws_FnExactAttrNames.j1 kj9 l0 a1 t342 t343 t349 true))))) else (some false))) = some r := H
     have A27 := Aside0.mk A270
     clear A270
     replace H := Option.bind_eq_some_iff.mp H
     obtain ⟨t357, A280, H⟩ := H
     replace H : (if t357 = true then ((laws_markItemS.f t346 1).bind fun t358 => (if t358 < 0 then (laws_FnExactAttrNames.j1 kj9 l0 a1 t342 t343 t349 true) else ((laws_eqQNameS.f kj9 t349 t342).bind fun t359 => (if t359 = true then (laws_FnExactAttrNames.j1 kj9 l0 a1 t342 t343 t349 (t350 != t343)) else (laws_FnExactAttrNames.j1 kj9 l0 a1 t342 t343 t349 true))))) else (some false)) = some r := H
     have A28 := Aside0.mk A280
     clear A280
     by_cases c29 : t357 = true
     ·subst c29
      have H1 : ((laws_markItemS.f t346 1).bind fun t358 => (if t358 < 0 then (laws_FnExactAttrNames.j1 kj9 l0 a1 t342 t343 t349 true) else ((laws_eqQNameS.f kj9 t349 t342).bind fun t359 => (if t359 = true then (laws_FnExactAttrNames.j1 kj9 l0 a1 t342 t343 t349 (t350 != t343)) else (laws_FnExactAttrNames.j1 kj9 l0 a1 t342 t343 t349 true))))) = some r := by rw [if_pos rfl] at H; exact H
      clear H
      have H := H1
      clear H1
      replace H := Option.bind_eq_some_iff.mp H
      obtain ⟨t358, A300, H⟩ := H
      replace H : (if t358 < 0 then (laws_FnExactAttrNames.j1 kj9 l0 a1 t342 t343 t349 true) else ((laws_eqQNameS.f kj9 t349 t342).bind fun t359 => (if t359 = true then (laws_FnExactAttrNames.j1 kj9 l0 a1 t342 t343 t349 (t350 != t343)) else (laws_FnExactAttrNames.j1 kj9 l0 a1 t342 t343 t349 true)))) = some r := H
      have A30 := Aside0.mk A300
      clear A300
      have HC31 := Aside0.mk H
      clear H
      go_upto_region 14 with (first | ((with_reducible refine gate_callee (f := 17) rfl ?_); refine goesL_ (some 47) rfl rfl Tryd.func17 (by kernel_rfl) rfl #[.slice A0 l0.length c0] rfl aG ?_; (with_reducible refine (laws_toItemS.calls kj9 _ _ l0 t354 _ ?side1 ?side2 A27.out).mono ?_); (case side1 => repeat (first | exact (Kd.C_below HR0.out HB.out) | (with_reducible refine Kd.C_alloc ?_ _) | (with_reducible refine Kd.C_drewN ?_ _) | (with_reducible refine Kd.C_drew ?_))); (case side2 => exact HC0.out); rintro e w32 ⟨v355, rfl, ho0, hb⟩; refine ⟨_, rfl, ?_⟩; have n0_ := Aside0.mk (Kd.R_below (aP HO_6.out) hb); have n1_ := Aside0.mk (Kd.S_elder' (by (with_reducible repeat (first | apply Kd.S_alloc | apply Kd.S_drewN | apply Kd.S_drew)); exact HO_8.out) (Kd.S_base ho0) hb); have n2_ := Aside0.mk (Kd.R_below (aP HO_9.out) hb); have n3_ := Aside0.mk (Kd.S_lower (Kd.S_new' ho0 (Kd.S_lt (by (with_reducible repeat (first | apply Kd.S_alloc | apply Kd.S_drewN | apply Kd.S_drew)); exact HO_8.out))) (below_size aB)); have n4_ := Aside0.mk (below_step aB hb); clear HO_6; clear HO_8; clear HO_9; clear HB; have HO_6 := n0_; have HO_8 := n1_; have HO_9 := n2_; have HO356 := n3_; have HB := n4_; clear n0_ n1_ n2_ n3_ n4_; (try clear hb); (try clear hb2); (try clear hk); (try clear hi); (try clear ho0); obtain ⟨Ao33, co33, eo33⟩ := Kd.S_slice HO356.out; subst eo33) | ((with_reducible refine gate_callee (f := 19) rfl ?_); refine goesL_ (some 48) rfl rfl Tryd.func19 (by kernel_rfl) rfl #[.slice Ao16 t346.length co16, .slice Ao33 t354.length co33] rfl aG ?_; (with_reducible refine (laws_eqItemS.calls kj9 _ _ t346 _ _ t354 true _ ?side1 ?side2 ?side3 ?side4 A28.out).mono ?_); (case side1 => repeat (first | exact (Kd.S_reads' HO_8.out).2.2 | (with_reducible refine Kd.C_alloc ?_ _) | (with_reducible refine Kd.C_drewN ?_ _) | (with_reducible refine Kd.C_drew ?_))); (case side2 => exact (Kd.S_reads' HO_8.out).2.1); (case side3 => repeat (first | exact (Kd.S_reads' HO356.out).2.2 | (with_reducible refine Kd.C_alloc ?_ _) | (with_reducible refine Kd.C_drewN ?_ _) | (with_reducible refine Kd.C_drew ?_))); (case side4 => exact (Kd.S_reads' HO356.out).2.1); rintro e w34 ⟨rfl, hb⟩; refine ⟨_, rfl, ?_⟩; have n0_ := Aside0.mk (Kd.R_below (aP HO_6.out) hb); have n1_ := Aside0.mk (Kd.S_below (by (with_reducible repeat (first | apply Kd.S_alloc | apply Kd.S_drewN | apply Kd.S_drew)); exact HO_8.out) hb); have n2_ := Aside0.mk (Kd.R_below (aP HO_9.out) hb); have n3_ := Aside0.mk (Kd.S_below (by (with_reducible repeat (first | apply Kd.S_alloc | apply Kd.S_drewN | apply Kd.S_drew)); exact HO356.out) hb); have n4_ := Aside0.mk (below_step aB hb); clear HO_6; clear HO_8; clear HO_9; clear HO356; clear HB; have HO_6 := n0_; have HO_8 := n1_; have HO_9 := n2_; have HO356 := n3_; have HB := n4_; clear n0_ n1_ n2_ n3_ n4_; (try clear hb); (try clear hb2); (try clear hk); (try clear hi)) | ((with_reducible refine gate_callee (f := 27) rfl ?_); refine goesL_ (some 52) rfl rfl Tryd.func27 (by kernel_rfl) rfl #[.slice Ao16 t346.length co16, .int .i64 1] rfl aG ?_; (with_reducible refine (laws_markItemS.calls (fun k_ => (((True ∧ some k_ ≠ (.slice Ao33 t354.length co33 : Value).ownBlock) ∧ some k_ ≠ (v344 : Value).ownBlock) ∧ some k_ ≠ (v351 : Value).ownBlock)) (.slice Ao16 t346.length co16) t346 1 t358 w _ ?side1 ?side2 A30.out).mono ?_); (case side1 => repeat (first | (with_reducible first | exact HB.out | apply below_alloc | apply pw_below_drewN | apply below_drew1) | exact HB.out)); (case side2 => exact (Kd.S_R (Kd.S_apart' (Kd.S_apart' HO_8.out (Kd.R_typed HO_6.out) (by decide)) (Kd.R_typed HO_9.out) (by decide)))); rintro e w35 ⟨rfl, hb, hkp⟩; refine ⟨_, rfl, ?_⟩; have n0_ := Aside0.mk (Kd.R_mono (ok' := fun k_ => some k_ ≠ (v351 : Value).ownBlock) (Kd.R_keptB (Kd.R_tight2 rfl (HO_6.out)) hkp (fun k_ hk_ hs_ => (hs_.1.2) hk_.1)) (fun k_ hk_ => hk_.1.2)); have n1_ := Aside0.mk (Kd.R_mono (ok' := fun k_ => some k_ ≠ (v344 : Value).ownBlock) (Kd.R_keptB (Kd.R_tight2 rfl (HO_9.out)) hkp (fun k_ hk_ hs_ => (hs_.2) hk_.1)) (fun k_ hk_ => hk_.1.2)); have n2_ := Aside0.mk (hb); clear HO_6; clear HO_9; clear HB; clear HO_8; clear HO356; have HO_6 := n0_; have HO_9 := n1_; have HB := n2_; clear n0_ n1_ n2_; (try clear hb); (try clear hkp)))
      (try simp only [Act.put, List.setIfInBounds_toArray, List.set_cons_zero, List.set_cons_succ])
      go_cut [65] (fun v65 wc => ∃ (kq : Nat) (x65_30 : Bool), v65 = .bool x65_30 ∧ Aside0 (laws_FnExactAttrNames.j1 kq l0 a1 t342 t343 t349 x65_30 = some r) ∧ Aside0 (kq ≤ kj9) ∧ Aside0 (Kd.R k92 92 wc w.heap.size (fun k_ => some k_ ≠ (v351 : Value).ownBlock) v344 t342) ∧ Aside0 (Kd.R k92 92 wc w.heap.size (fun k_ => some k_ ≠ (v344 : Value).ownBlock) v351 t349) ∧ Aside0 (Below w.heap.size w wc))
      case first =>
       have H := HC31.out
       clear HC31
       by_cases c36 : t358 < 0
       ·rw [if_pos c36] at H
        have c36b0 : decide (t358 < 0) = true := decide_eq_true c36
        clear c36
        (first | rw [c36b0] | (simp only [i64_w, i32_w]; rw [c36b0]) | skip)
        have H' := Aside0.mk H
        clear H
        go_wp2
        go_meet
        case rel => exact ⟨_, (true), aR, H', ⟨by have := HJ9.out; first | omega | exact Nat.le_refl _⟩, ⟨aP HO_6.out⟩, ⟨aP HO_9.out⟩, ⟨aB⟩⟩
       ·rw [if_neg c36] at H
        have c36b0 : decide (t358 < 0) = false := decide_eq_false c36
        clear c36
        (first | rw [c36b0] | (simp only [i64_w, i32_w]; rw [c36b0]) | skip)
        replace H := Option.bind_eq_some_iff.mp H
        obtain ⟨t359, A370, H⟩ := H
        replace H : (if t359 = true then (laws_FnExactAttrNames.j1 kj9 l0 a1 t342 t343 t349 (t350 != t343)) else (laws_FnExactAttrNames.j1 kj9 l0 a1 t342 t343 t349 true)) = some r := H
        have A37 := Aside0.mk A370
        clear A370
        by_cases c38 : t359 = true
        ·subst c38
         have H1 : (laws_FnExactAttrNames.j1 kj9 l0 a1 t342 t343 t349 (t350 != t343)) = some r := by rw [if_pos rfl] at H; exact H
         clear H
         have H := H1
         clear H1
         have H' := Aside0.mk H
         clear H
         obtain ⟨Ao39, co39, eo39⟩ := Kd.R_slice HO_9.out
         subst eo39
         obtain ⟨Ao40, co40, eo40⟩ := Kd.R_slice HO_6.out
         subst eo40
         go_wp2_with (first | (go_at_call 32; (with_reducible refine (laws_eqQNameS.calls kj9 _ _ t349 _ _ t342 true _ ?side1 ?side2 ?side3 ?side4 A37.out).mono ?_); (case side1 => repeat (first | exact (Kd.R_reads' HO_9.out).2.2 | (with_reducible refine Kd.C_alloc ?_ _) | (with_reducible refine Kd.C_drewN ?_ _) | (with_reducible refine Kd.C_drew ?_))); (case side2 => exact (Kd.R_reads' HO_9.out).2.1); (case side3 => repeat (first | exact (Kd.R_reads' HO_6.out).2.2 | (with_reducible refine Kd.C_alloc ?_ _) | (with_reducible refine Kd.C_drewN ?_ _) | (with_reducible refine Kd.C_drew ?_))); (case side4 => exact (Kd.R_reads' HO_6.out).2.1); rintro e w41 ⟨rfl, hb⟩; have n0_ := Aside0.mk (Kd.R_below (aP HO_6.out) hb); have n1_ := Aside0.mk (Kd.R_below (aP HO_9.out) hb); have n2_ := Aside0.mk (below_step aB hb); clear HO_6; clear HO_9; clear HB; have HO_6 := n0_; have HO_9 := n1_; have HB := n2_; clear n0_ n1_ n2_; (try clear hb); (try clear hb2); (try clear hk); (try clear hi)))
         go_meet
         case rel => exact ⟨_, ((t350 != t343)), aR, H', ⟨by have := HJ9.out; first | omega | exact Nat.le_refl _⟩, ⟨aP HO_6.out⟩, ⟨aP HO_9.out⟩, ⟨aB⟩⟩
        ·replace c38 := Bool.eq_false_iff.mpr c38
         subst c38
         have H1 : (laws_FnExactAttrNames.j1 kj9 l0 a1 t342 t343 t349 true) = some r := by rw [if_neg (show ¬ (false = true) by decide)] at H; exact H
         clear H
         have H := H1
         clear H1
         have H' := Aside0.mk H
         clear H
         obtain ⟨Ao42, co42, eo42⟩ := Kd.R_slice HO_9.out
         subst eo42
         obtain ⟨Ao43, co43, eo43⟩ := Kd.R_slice HO_6.out
         subst eo43
         go_wp2_with (first | (go_at_call 32; (with_reducible refine (laws_eqQNameS.calls kj9 _ _ t349 _ _ t342 false _ ?side1 ?side2 ?side3 ?side4 A37.out).mono ?_); (case side1 => repeat (first | exact (Kd.R_reads' HO_9.out).2.2 | (with_reducible refine Kd.C_alloc ?_ _) | (with_reducible refine Kd.C_drewN ?_ _) | (with_reducible refine Kd.C_drew ?_))); (case side2 => exact (Kd.R_reads' HO_9.out).2.1); (case side3 => repeat (first | exact (Kd.R_reads' HO_6.out).2.2 | (with_reducible refine Kd.C_alloc ?_ _) | (with_reducible refine Kd.C_drewN ?_ _) | (with_reducible refine Kd.C_drew ?_))); (case side4 => exact (Kd.R_reads' HO_6.out).2.1); rintro e w44 ⟨rfl, hb⟩; have n0_ := Aside0.mk (Kd.R_below (aP HO_6.out) hb); have n1_ := Aside0.mk (Kd.R_below (aP HO_9.out) hb); have n2_ := Aside0.mk (below_step aB hb); clear HO_6; clear HO_9; clear HB; have HO_6 := n0_; have HO_9 := n1_; have HB := n2_; clear n0_ n1_ n2_; (try clear hb); (try clear hb2); (try clear hk); (try clear hi)))
         go_meet
         case rel => exact ⟨_, (true), aR, H', ⟨by have := HJ9.out; first | omega | exact Nat.le_refl _⟩, ⟨aP HO_6.out⟩, ⟨aP HO_9.out⟩, ⟨aB⟩⟩
      case rest =>
       clear HC31
       try clear c1
       try clear c2
       try clear p2
       try clear c3
       try clear c4
       try clear c4b0
       try clear c9
       try clear c15
       try clear c17
       try clear c19
       try clear c26
       try clear c27
       try clear c29
       try clear c30
       try clear c31
       try clear c32
       try clear c36
       try clear c36b0
       try clear c38
       try clear p2
       obtain ⟨kq, x65_30, rfl, HA, HJ30, HO_6, HO_9, HB⟩ := hcut
       cases kq with
       | zero => exact absurd HA.out (by simp [laws_FnExactAttrNames.j1])
       | succ kj30 =>
        have H := HA.out
        clear HA
        simp only [laws_FnExactAttrNames.j1] at H
        by_cases c45 : x65_30 = true
        ·subst c45
         have H1 : (some false) = some r := by rw [if_pos rfl] at H; exact H
         clear H
         have H := H1
         clear H1
         obtain rfl := Option.some.inj H
         go_wp2
         go_ret
         exact ⟨aS, aB⟩
        ·replace c45 := Bool.eq_false_iff.mpr c45
         subst c45
         have H1 : ((laws_markQNameS.f kj30 t349 1).bind fun bt360 => ((laws_heldQNameS.f kj30 bt360.2 1).bind fun t362 => (if t362 < 0 then (some false) else (if t362 = bt360.1 then ((laws_toItemS.f kj30 l0).bind fun t363 => ((impl_AttrNames.f kj30 t363 a1).bind fun bt366 => ((laws_eqQNameS.f kj30 bt366.1 t342).bind fun t370 => (if t370 = true then (laws_FnExactAttrNames.j2 kj30 bt360.2 bt360.1 (bt366.2 != t343)) else (laws_FnExactAttrNames.j2 kj30 bt360.2 bt360.1 true))))) else (some false))))) = some r := by rw [if_neg (show ¬ (false = true) by decide)] at H; exact H
         clear H
         have H := H1
         clear H1
         replace H := Option.bind_eq_some_iff.mp H
         obtain ⟨⟨t360, t361⟩, A460, H⟩ := H
         replace H : ((laws_heldQNameS.f kj30 t361 1).bind fun t362 => (if t362 < 0 then (some false) else (if t362 = t360 then ((laws_toItemS.f kj30 l0).bind fun t363 => ((impl_AttrNames.f kj30 t363 a1).bind fun bt366 => ((laws_eqQNameS.f kj30 bt366.1 t342).bind fun t370 => (if t370 = true then (laws_FnExactAttrNames.j2 kj30 t361 t360 (bt366.2 != t343)) else (laws_FnExactAttrNames.j2 kj30 t361 t360 true))))) else (some false)))) = some r := H
         have A46 := Aside0.mk A460
         clear A460
         replace H := Option.bind_eq_some_iff.mp H
         obtain ⟨t362, A470, H⟩ := H
         replace H : (if t362 < 0 then (some false) else (if t362 = t360 then ((laws_toItemS.f kj30 l0).bind fun t363 => ((impl_AttrNames.f kj30 t363 a1).bind fun bt366 => ((laws_eqQNameS.f kj30 bt366.1 t342).bind fun t370 => (if t370 = true then (laws_FnExactAttrNames.j2 kj30 t361 t360 (bt366.2 != t343)) else (laws_FnExactAttrNames.j2 kj30 t361 t360 true))))) else (some false))) = some r := H
         have A47 := Aside0.mk A470
         clear A470
         by_cases c48 : t362 < 0
         ·rw [if_pos c48] at H
          have c48b0 : decide (t362 < 0) = true := decide_eq_true c48
          clear c48
          obtain rfl := Option.some.inj H
          obtain ⟨Ao49, co49, eo49⟩ := Kd.R_slice HO_9.out
          subst eo49
          go_wp2_with (first | ((with_reducible refine gate_callee (f := 33) rfl ?_); refine goesL_ (some 68) rfl rfl Tryd.func33 (by kernel_rfl) rfl #[.slice Ao49 t349.length co49, .int .i64 1] rfl aG ?_; (with_reducible refine (laws_markQNameS.calls kj30 (fun k_ => some k_ = (.slice Ao49 t349.length co49 : Value).ownBlock) (.slice Ao49 t349.length co49) t349 1 t360 t361 w _ ?side1 ?side2 A46.out).mono ?_); (case side1 => repeat (first | (with_reducible first | exact HB.out | apply below_alloc | apply pw_below_drewN | apply below_drew1) | exact HB.out)); (case side2 => exact Kd.R_tight rfl HO_9.out); rintro e w50 ⟨rfl, hy0, hb, hkp⟩; refine ⟨_, rfl, ?_⟩; have n0_ := Aside0.mk (Kd.R_mono (ok' := fun k_ => some k_ ≠ (.slice Ao49 t349.length co49 : Value).ownBlock) (Kd.R_keptB (HO_6.out) hkp (fun k_ hk_ hs_ => (hk_) hs_)) (fun k_ hk_ => hk_.1)); have n1_ := Aside0.mk (Kd.R_reok rfl hy0 (fun k_ e_ => HO_9.out.1 k_ e_)); have n2_ := Aside0.mk (hb); clear HO_6; clear HO_9; clear HB; have HO_6 := n0_; have HO_9 := n1_; have HB := n2_; clear n0_ n1_ n2_; (try clear hb); (try clear hkp); (try clear hy0)) | ((with_reducible refine gate_callee (f := 34) rfl ?_); refine goesL_ (some 71) rfl rfl Tryd.func34 (by kernel_rfl) rfl #[.slice Ao49 t361.length co49, .int .i64 1] rfl (by (try simp only [List.map_toArray, List.map_cons, List.map_nil]); first | done | (rw [show t361.length = t349.length from (Kd.R_reads' HO_9.out).1.symm] <;> rfl) | rfl | (simp only [List.length_drop, List.length_take]; rfl)) ?_; (with_reducible refine (laws_heldQNameS.calls kj30 _ _ t361 1 t362 _ ?side1 ?side2 A47.out).mono ?_); (case side1 => repeat (first | exact (Kd.R_reads' HO_9.out).2.2 | (with_reducible refine Kd.C_alloc ?_ _) | (with_reducible refine Kd.C_drewN ?_ _) | (with_reducible refine Kd.C_drew ?_))); (case side2 => rw [show t361.length = t349.length from (Kd.R_reads' HO_9.out).1.symm]; exact (Kd.R_reads' HO_9.out).2.1); rintro e w51 ⟨rfl, hb⟩; refine ⟨_, rfl, ?_⟩; have n0_ := Aside0.mk (Kd.R_below (aP HO_6.out) hb); have n1_ := Aside0.mk (Kd.R_below (aP HO_9.out) hb); have n2_ := Aside0.mk (below_step aB hb); clear HO_6; clear HO_9; clear HB; have HO_6 := n0_; have HO_9 := n1_; have HB := n2_; clear n0_ n1_ n2_; (try clear hb); (try clear hb2); (try clear hk); (try clear hi)))
          go_ret
          exact ⟨aS, aB⟩
         ·rw [if_neg c48] at H
          have c48b0 : decide (t362 < 0) = false := decide_eq_false c48
          clear c48
          by_cases c52 : t362 = t360
          ·rw [if_pos c52] at H
           have c52b0 : (t362 == t360) = true := beq_iff_eq.mpr c52
           have c52b1 : (t362 != t360) = false := bne_eq_false_iff_eq.mpr c52
           clear c52
           replace H := Option.bind_eq_some_iff.mp H
           obtain ⟨t363, A530, H⟩ := H
           replace H : ((impl_AttrNames.f kj30 t363 a1).bind fun bt366 => ((laws_eqQNameS.f kj30 bt366.1 t342).bind fun t370 => (if t370 = true then (laws_FnExactAttrNames.j2 kj30 t361 t360 (bt366.2 != t343)) else (laws_FnExactAttrNames.j2 kj30 t361 t360 true)))) = some r := H
           have A53 := Aside0.mk A530
           clear A530
           replace H := Option.bind_eq_some_iff.mp H
           obtain ⟨⟨t366, t367⟩, A540, H⟩ := H
           replace H : ((laws_eqQNameS.f kj30 t366 t342).bind fun t370 => (if t370 = true then (laws_FnExactAttrNames.j2 kj30 t361 t360 (t367 != t343)) else (laws_FnExactAttrNames.j2 kj30 t361 t360 true))) = some r := H
           have A54 := Aside0.mk A540
           clear A540
           have HC55 := Aside0.mk H
           clear H
           obtain ⟨Ao56, co56, eo56⟩ := Kd.R_slice HO_9.out
           subst eo56
           go_upto_region 25 with (first | ((with_reducible refine gate_callee (f := 33) rfl ?_); refine goesL_ (some 68) rfl rfl Tryd.func33 (by kernel_rfl) rfl #[.slice Ao56 t349.length co56, .int .i64 1] rfl aG ?_; (with_reducible refine (laws_markQNameS.calls kj30 (fun k_ => some k_ = (.slice Ao56 t349.length co56 : Value).ownBlock) (.slice Ao56 t349.length co56) t349 1 t360 t361 w _ ?side1 ?side2 A46.out).mono ?_); (case side1 => repeat (first | (with_reducible first | exact HB.out | apply below_alloc | apply pw_below_drewN | apply below_drew1) | exact HB.out)); (case side2 => exact Kd.R_tight rfl HO_9.out); rintro e w57 ⟨rfl, hy0, hb, hkp⟩; refine ⟨_, rfl, ?_⟩; have n0_ := Aside0.mk (Kd.R_mono (ok' := fun k_ => some k_ ≠ (.slice Ao56 t349.length co56 : Value).ownBlock) (Kd.R_keptB (HO_6.out) hkp (fun k_ hk_ hs_ => (hk_) hs_)) (fun k_ hk_ => hk_.1)); have n1_ := Aside0.mk (Kd.R_reok rfl hy0 (fun k_ e_ => HO_9.out.1 k_ e_)); have n2_ := Aside0.mk (hb); clear HO_6; clear HO_9; clear HB; have HO_6 := n0_; have HO_9 := n1_; have HB := n2_; clear n0_ n1_ n2_; (try clear hb); (try clear hkp); (try clear hy0)) | ((with_reducible refine gate_callee (f := 34) rfl ?_); refine goesL_ (some 71) rfl rfl Tryd.func34 (by kernel_rfl) rfl #[.slice Ao56 t361.length co56, .int .i64 1] rfl (by (try simp only [List.map_toArray, List.map_cons, List.map_nil]); first | done | (rw [show t361.length = t349.length from (Kd.R_reads' HO_9.out).1.symm] <;> rfl) | rfl | (simp only [List.length_drop, List.length_take]; rfl)) ?_; (with_reducible refine (laws_heldQNameS.calls kj30 _ _ t361 1 t362 _ ?side1 ?side2 A47.out).mono ?_); (case side1 => repeat (first | exact (Kd.R_reads' HO_9.out).2.2 | (with_reducible refine Kd.C_alloc ?_ _) | (with_reducible refine Kd.C_drewN ?_ _) | (with_reducible refine Kd.C_drew ?_))); (case side2 => rw [show t361.length = t349.length from (Kd.R_reads' HO_9.out).1.symm]; exact (Kd.R_reads' HO_9.out).2.1); rintro e w58 ⟨rfl, hb⟩; refine ⟨_, rfl, ?_⟩; have n0_ := Aside0.mk (Kd.R_below (aP HO_6.out) hb); have n1_ := Aside0.mk (Kd.R_below (aP HO_9.out) hb); have n2_ := Aside0.mk (below_step aB hb); clear HO_6; clear HO_9; clear HB; have HO_6 := n0_; have HO_9 := n1_; have HB := n2_; clear n0_ n1_ n2_; (try clear hb); (try clear hb2); (try clear hk); (try clear hi)) | ((with_reducible refine gate_callee (f := 17) rfl ?_); refine goesL_ (some 79) rfl rfl Tryd.func17 (by kernel_rfl) rfl #[.slice A0 l0.length c0] rfl aG ?_; (with_reducible refine (laws_toItemS.calls kj30 _ _ l0 t363 _ ?side1 ?side2 A53.out).mono ?_); (case side1 => repeat (first | exact (Kd.C_below HR0.out HB.out) | (with_reducible refine Kd.C_alloc ?_ _) | (with_reducible refine Kd.C_drewN ?_ _) | (with_reducible refine Kd.C_drew ?_))); (case side2 => exact HC0.out); rintro e w59 ⟨v364, rfl, ho0, hb⟩; refine ⟨_, rfl, ?_⟩; have n0_ := Aside0.mk (Kd.R_below (aP HO_6.out) hb); have n1_ := Aside0.mk (Kd.R_below (aP HO_9.out) hb); have n2_ := Aside0.mk (Kd.S_lower ho0 (below_size aB)); have n3_ := Aside0.mk (below_step aB hb); clear HO_6; clear HO_9; clear HB; have HO_6 := n0_; have HO_9 := n1_; have HO365 := n2_; have HB := n3_; clear n0_ n1_ n2_ n3_; (try clear hb); (try clear hb2); (try clear hk); (try clear hi); (try clear ho0); obtain ⟨Ao60, co60, eo60⟩ := Kd.S_slice HO365.out; subst eo60) | ((with_reducible refine gate_callee (f := 31) rfl ?_); refine goesL_ (some 81) rfl rfl Tryd.func31 (by kernel_rfl) rfl #[.slice Ao60 t363.length co60, .int .i64 a1] rfl aG ?_; (with_reducible refine (impl_AttrNames.calls kj30 _ _ t363 a1 t366 t367 _ ?side1 ?side2 ?side3 A54.out).mono ?_); (case side1 => exact GL.below HGL.out aB); (case side2 => repeat (first | exact (Kd.S_reads' HO365.out).2.2 | (with_reducible refine Kd.C_alloc ?_ _) | (with_reducible refine Kd.C_drewN ?_ _) | (with_reducible refine Kd.C_drew ?_))); (case side3 => exact (Kd.S_reads' HO365.out).2.1); rintro e w61 ⟨v368, rfl, ho0, hb⟩; refine ⟨_, rfl, ?_⟩; have n0_ := Aside0.mk (Kd.R_elder' (aP HO_6.out) (Kd.R_base ho0) hb); have n1_ := Aside0.mk (Kd.R_elder' (aP HO_9.out) (Kd.R_base ho0) hb); have n2_ := Aside0.mk (Kd.S_below (by (with_reducible repeat (first | apply Kd.S_alloc | apply Kd.S_drewN | apply Kd.S_drew)); exact HO365.out) hb); have n3_ := Aside0.mk (Kd.R_lower (Kd.R_new' (Kd.R_new' ho0 (Kd.R_lt (aP HO_6.out))) (Kd.R_lt (aP HO_9.out))) (below_size aB)); have n4_ := Aside0.mk (below_step aB hb); clear HO_6; clear HO_9; clear HO365; clear HB; have HO_6 := n0_; have HO_9 := n1_; have HO365 := n2_; have HO369 := n3_; have HB := n4_; clear n0_ n1_ n2_ n3_ n4_; (try clear hb); (try clear hb2); (try clear hk); (try clear hi); (try clear ho0)))
           (try simp only [Act.put, List.setIfInBounds_toArray, List.set_cons_zero, List.set_cons_succ])
           go_cut [92] (fun v92 wc => ∃ (kq : Nat) (x92_54 : Bool), v92 = .bool x92_54 ∧ Aside0 (laws_FnExactAttrNames.j2 kq t361 t360 x92_54 = some r) ∧ Aside0 (kq ≤ kj30) ∧ Aside0 (Kd.R k92 92 wc w.heap.size (fun _ => True) (.slice Ao56 t349.length co56) t361) ∧ Aside0 (Below w.heap.size w wc))
           case first =>
            have H := HC55.out
            clear HC55
            replace H := Option.bind_eq_some_iff.mp H
            obtain ⟨t370, A620, H⟩ := H
            replace H : (if t370 = true then (laws_FnExactAttrNames.j2 kj30 t361 t360 (t367 != t343)) else (laws_FnExactAttrNames.j2 kj30 t361 t360 true)) = some r := H
            have A62 := Aside0.mk A620
            clear A620
            by_cases c63 : t370 = true
            ·subst c63
             have H1 : (laws_FnExactAttrNames.j2 kj30 t361 t360 (t367 != t343)) = some r := by rw [if_pos rfl] at H; exact H
             clear H
             have H := H1
             clear H1
             have H' := Aside0.mk H
             clear H
             obtain ⟨Ao64, co64, eo64⟩ := Kd.R_slice HO369.out
             subst eo64
             obtain ⟨Ao65, co65, eo65⟩ := Kd.R_slice HO_6.out
             subst eo65
             go_wp2_with (first | ((with_reducible refine gate_callee (f := 32) rfl ?_); refine goesL_ (some 86) rfl rfl Tryd.func32 (by kernel_rfl) rfl #[.slice Ao64 t366.length co64, .slice Ao65 t342.length co65] rfl aG ?_; (with_reducible refine (laws_eqQNameS.calls kj30 _ _ t366 _ _ t342 true _ ?side1 ?side2 ?side3 ?side4 A62.out).mono ?_); (case side1 => repeat (first | exact (Kd.R_reads' HO369.out).2.2 | (with_reducible refine Kd.C_alloc ?_ _) | (with_reducible refine Kd.C_drewN ?_ _) | (with_reducible refine Kd.C_drew ?_))); (case side2 => exact (Kd.R_reads' HO369.out).2.1); (case side3 => repeat (first | exact (Kd.R_reads' HO_6.out).2.2 | (with_reducible refine Kd.C_alloc ?_ _) | (with_reducible refine Kd.C_drewN ?_ _) | (with_reducible refine Kd.C_drew ?_))); (case side4 => exact (Kd.R_reads' HO_6.out).2.1); rintro e w66 ⟨rfl, hb⟩; refine ⟨_, rfl, ?_⟩; have n0_ := Aside0.mk (Kd.R_below (aP HO_6.out) hb); have n1_ := Aside0.mk (Kd.R_below (aP HO_9.out) hb); have n2_ := Aside0.mk (Kd.S_below (by (with_reducible repeat (first | apply Kd.S_alloc | apply Kd.S_drewN | apply Kd.S_drew)); exact HO365.out) hb); have n3_ := Aside0.mk (Kd.R_below (aP HO369.out) hb); have n4_ := Aside0.mk (below_step aB hb); clear HO_6; clear HO_9; clear HO365; clear HO369; clear HB; have HO_6 := n0_; have HO_9 := n1_; have HO365 := n2_; have HO369 := n3_; have HB := n4_; clear n0_ n1_ n2_ n3_ n4_; (try clear hb); (try clear hb2); (try clear hk); (try clear hi)))
             go_meet
             case rel => exact ⟨_, ((t367 != t343)), aR, H', ⟨by have := HJ9.out; have := HJ30.out; first | omega | exact Nat.le_refl _⟩, ⟨by (with_reducible repeat (first | apply Kd.R_alloc | apply Kd.R_drewN | apply Kd.R_drew)); exact Kd.R_mono HO_9.out (fun _ hk => trivial)⟩, ⟨aB⟩⟩
            ·replace c63 := Bool.eq_false_iff.mpr c63
             subst c63
             have H1 : (laws_FnExactAttrNames.j2 kj30 t361 t360 true) = some r := by rw [if_neg (show ¬ (false = true) by decide)] at H; exact H
             clear H
             have H := H1
             clear H1
             have H' := Aside0.mk H
             clear H
             obtain ⟨Ao67, co67, eo67⟩ := Kd.R_slice HO369.out
             subst eo67
             obtain ⟨Ao68, co68, eo68⟩ := Kd.R_slice HO_6.out
             subst eo68
             go_wp2_with (first | ((with_reducible refine gate_callee (f := 32) rfl ?_); refine goesL_ (some 86) rfl rfl Tryd.func32 (by kernel_rfl) rfl #[.slice Ao67 t366.length co67, .slice Ao68 t342.length co68] rfl aG ?_; (with_reducible refine (laws_eqQNameS.calls kj30 _ _ t366 _ _ t342 false _ ?side1 ?side2 ?side3 ?side4 A62.out).mono ?_); (case side1 => repeat (first | exact (Kd.R_reads' HO369.out).2.2 | (with_reducible refine Kd.C_alloc ?_ _) | (with_reducible refine Kd.C_drewN ?_ _) | (with_reducible refine Kd.C_drew ?_))); (case side2 => exact (Kd.R_reads' HO369.out).2.1); (case side3 => repeat (first | exact (Kd.R_reads' HO_6.out).2.2 | (with_reducible refine Kd.C_alloc ?_ _) | (with_reducible refine Kd.C_drewN ?_ _) | (with_reducible refine Kd.C_drew ?_))); (case side4 => exact (Kd.R_reads' HO_6.out).2.1); rintro e w69 ⟨rfl, hb⟩; refine ⟨_, rfl, ?_⟩; have n0_ := Aside0.mk (Kd.R_below (aP HO_6.out) hb); have n1_ := Aside0.mk (Kd.R_below (aP HO_9.out) hb); have n2_ := Aside0.mk (Kd.S_below (by (with_reducible repeat (first | apply Kd.S_alloc | apply Kd.S_drewN | apply Kd.S_drew)); exact HO365.out) hb); have n3_ := Aside0.mk (Kd.R_below (aP HO369.out) hb); have n4_ := Aside0.mk (below_step aB hb); clear HO_6; clear HO_9; clear HO365; clear HO369; clear HB; have HO_6 := n0_; have HO_9 := n1_; have HO365 := n2_; have HO369 := n3_; have HB := n4_; clear n0_ n1_ n2_ n3_ n4_; (try clear hb); (try clear hb2); (try clear hk); (try clear hi)))
             go_meet
             case rel => exact ⟨_, (true), aR, H', ⟨by have := HJ9.out; have := HJ30.out; first | omega | exact Nat.le_refl _⟩, ⟨by (with_reducible repeat (first | apply Kd.R_alloc | apply Kd.R_drewN | apply Kd.R_drew)); exact Kd.R_mono HO_9.out (fun _ hk => trivial)⟩, ⟨aB⟩⟩
           case rest =>
            clear HC55
            try clear c1
            try clear c2
            try clear p2
            try clear c3
            try clear c4
            try clear c4b0
            try clear c5
            try clear c6
            try clear c9
            try clear c15
            try clear c17
            try clear c19
            try clear c26
            try clear c27
            try clear c29
            try clear c30
            try clear c31
            try clear c32
            try clear c33
            try clear c34
            try clear c36
            try clear c36b0
            try clear c38
            try clear c45
            try clear c48
            try clear c48b0
            try clear c52
            try clear c52b0
            try clear c52b1
            try clear c63
            try clear p2
            obtain ⟨kq, x92_54, rfl, HA, HJ54, HO_9, HB⟩ := hcut
            have hl9_54 := (Kd.R_reads' HO_9.out).1
            rw [hl9_54] at HO_9
            (try simp only [hl9_54])
            cases kq with
            | zero => exact absurd HA.out (by simp [laws_FnExactAttrNames.j2])
            | succ kj54 =>
             have H := HA.out
             clear HA
             simp only [laws_FnExactAttrNames.j2] at H
             by_cases c70 : x92_54 = true
             ·subst c70
              have H1 : (some false) = some r := by rw [if_pos rfl] at H; exact H
              clear H
              have H := H1
              clear H1
              obtain rfl := Option.some.inj H
              go_wp2
              go_ret
              exact ⟨aS, aB⟩
             ·replace c70 := Bool.eq_false_iff.mpr c70
              subst c70
              have H1 : ((laws_heldQNameS.f kj54 t361 1).bind fun t371 => (if t371 < 0 then (some false) else (if t371 = t360 then (some true) else (some false)))) = some r := by rw [if_neg (show ¬ (false = true) by decide)] at H; exact H
              clear H
              have H := H1
              clear H1
              replace H := Option.bind_eq_some_iff.mp H
              obtain ⟨t371, A710, H⟩ := H
              replace H : (if t371 < 0 then (some false) else (if t371 = t360 then (some true) else (some false))) = some r := H
              have A71 := Aside0.mk A710
              clear A710
              by_cases c72 : t371 < 0
              ·rw [if_pos c72] at H
               have c72b0 : decide (t371 < 0) = true := decide_eq_true c72
               clear c72
               obtain rfl := Option.some.inj H
               go_wp2_with (first | ((with_reducible refine gate_callee (f := 34) rfl ?_); refine goesL_ (some 95) rfl rfl Tryd.func34 (by kernel_rfl) rfl #[.slice Ao56 t361.length co56, .int .i64 1] rfl aG ?_; (with_reducible refine (laws_heldQNameS.calls kj54 _ _ t361 1 t371 _ ?side1 ?side2 A71.out).mono ?_); (case side1 => repeat (first | exact (Kd.R_reads' HO_9.out).2.2 | (with_reducible refine Kd.C_alloc ?_ _) | (with_reducible refine Kd.C_drewN ?_ _) | (with_reducible refine Kd.C_drew ?_))); (case side2 => exact (Kd.R_reads' HO_9.out).2.1); rintro e w73 ⟨rfl, hb⟩; refine ⟨_, rfl, ?_⟩; have n0_ := Aside0.mk (Kd.R_below (aP HO_9.out) hb); have n1_ := Aside0.mk (below_step aB hb); clear HO_9; clear HB; have HO_9 := n0_; have HB := n1_; clear n0_ n1_; (try clear hb); (try clear hb2); (try clear hk); (try clear hi)))
               go_ret
               exact ⟨aS, aB⟩
              ·rw [if_neg c72] at H
               have c72b0 : decide (t371 < 0) = false := decide_eq_false c72
               clear c72
               by_cases c74 : t371 = t360
               ·rw [if_pos c74] at H
                have c74b0 : (t371 == t360) = true := beq_iff_eq.mpr c74
                have c74b1 : (t371 != t360) = false := bne_eq_false_iff_eq.mpr c74
                clear c74
                obtain rfl := Option.some.inj H
                go_wp2_with (first | ((with_reducible refine gate_callee (f := 34) rfl ?_); refine goesL_ (some 95) rfl rfl Tryd.func34 (by kernel_rfl) rfl #[.slice Ao56 t361.length co56, .int .i64 1] rfl aG ?_; (with_reducible refine (laws_heldQNameS.calls kj54 _ _ t361 1 t371 _ ?side1 ?side2 A71.out).mono ?_); (case side1 => repeat (first | exact (Kd.R_reads' HO_9.out).2.2 | (with_reducible refine Kd.C_alloc ?_ _) | (with_reducible refine Kd.C_drewN ?_ _) | (with_reducible refine Kd.C_drew ?_))); (case side2 => exact (Kd.R_reads' HO_9.out).2.1); rintro e w75 ⟨rfl, hb⟩; refine ⟨_, rfl, ?_⟩; have n0_ := Aside0.mk (Kd.R_below (aP HO_9.out) hb); have n1_ := Aside0.mk (below_step aB hb); clear HO_9; clear HB; have HO_9 := n0_; have HB := n1_; clear n0_ n1_; (try clear hb); (try clear hb2); (try clear hk); (try clear hi)))
                go_ret
                exact ⟨aS, aB⟩
               ·rw [if_neg c74] at H
                have c74b0 : (t371 == t360) = false := beq_eq_false_iff_ne.mpr c74
                have c74b1 : (t371 != t360) = true := bne_iff_ne.mpr c74
                obtain rfl := Option.some.inj H
                go_wp2_with (first | ((with_reducible refine gate_callee (f := 34) rfl ?_); refine goesL_ (some 95) rfl rfl Tryd.func34 (by kernel_rfl) rfl #[.slice Ao56 t361.length co56, .int .i64 1] rfl aG ?_; (with_reducible refine (laws_heldQNameS.calls kj54 _ _ t361 1 t371 _ ?side1 ?side2 A71.out).mono ?_); (case side1 => repeat (first | exact (Kd.R_reads' HO_9.out).2.2 | (with_reducible refine Kd.C_alloc ?_ _) | (with_reducible refine Kd.C_drewN ?_ _) | (with_reducible refine Kd.C_drew ?_))); (case side2 => exact (Kd.R_reads' HO_9.out).2.1); rintro e w76 ⟨rfl, hb⟩; refine ⟨_, rfl, ?_⟩; have n0_ := Aside0.mk (Kd.R_below (aP HO_9.out) hb); have n1_ := Aside0.mk (below_step aB hb); clear HO_9; clear HB; have HO_9 := n0_; have HB := n1_; clear n0_ n1_; (try clear hb); (try clear hb2); (try clear hk); (try clear hi)))
                go_ret
                exact ⟨aS, aB⟩
          ·rw [if_neg c52] at H
           have c52b0 : (t362 == t360) = false := beq_eq_false_iff_ne.mpr c52
           have c52b1 : (t362 != t360) = true := bne_iff_ne.mpr c52
           obtain rfl := Option.some.inj H
           obtain ⟨Ao77, co77, eo77⟩ := Kd.R_slice HO_9.out
           subst eo77
           go_wp2_with (first | ((with_reducible refine gate_callee (f := 33) rfl ?_); refine goesL_ (some 68) rfl rfl Tryd.func33 (by kernel_rfl) rfl #[.slice Ao77 t349.length co77, .int .i64 1] rfl aG ?_; (with_reducible refine (laws_markQNameS.calls kj30 (fun k_ => some k_ = (.slice Ao77 t349.length co77 : Value).ownBlock) (.slice Ao77 t349.length co77) t349 1 t360 t361 w _ ?side1 ?side2 A46.out).mono ?_); (case side1 => repeat (first | (with_reducible first | exact HB.out | apply below_alloc | apply pw_below_drewN | apply below_drew1) | exact HB.out)); (case side2 => exact Kd.R_tight rfl HO_9.out); rintro e w78 ⟨rfl, hy0, hb, hkp⟩; refine ⟨_, rfl, ?_⟩; have n0_ := Aside0.mk (Kd.R_mono (ok' := fun k_ => some k_ ≠ (.slice Ao77 t349.length co77 : Value).ownBlock) (Kd.R_keptB (HO_6.out) hkp (fun k_ hk_ hs_ => (hk_) hs_)) (fun k_ hk_ => hk_.1)); have n1_ := Aside0.mk (Kd.R_reok rfl hy0 (fun k_ e_ => HO_9.out.1 k_ e_)); have n2_ := Aside0.mk (hb); clear HO_6; clear HO_9; clear HB; have HO_6 := n0_; have HO_9 := n1_; have HB := n2_; clear n0_ n1_ n2_; (try clear hb); (try clear hkp); (try clear hy0)) | ((with_reducible refine gate_callee (f := 34) rfl ?_); refine goesL_ (some 71) rfl rfl Tryd.func34 (by kernel_rfl) rfl #[.slice Ao77 t361.length co77, .int .i64 1] rfl (by (try simp only [List.map_toArray, List.map_cons, List.map_nil]); first | done | (rw [show t361.length = t349.length from (Kd.R_reads' HO_9.out).1.symm] <;> rfl) | rfl | (simp only [List.length_drop, List.length_take]; rfl)) ?_; (with_reducible refine (laws_heldQNameS.calls kj30 _ _ t361 1 t362 _ ?side1 ?side2 A47.out).mono ?_); (case side1 => repeat (first | exact (Kd.R_reads' HO_9.out).2.2 | (with_reducible refine Kd.C_alloc ?_ _) | (with_reducible refine Kd.C_drewN ?_ _) | (with_reducible refine Kd.C_drew ?_))); (case side2 => rw [show t361.length = t349.length from (Kd.R_reads' HO_9.out).1.symm]; exact (Kd.R_reads' HO_9.out).2.1); rintro e w79 ⟨rfl, hb⟩; refine ⟨_, rfl, ?_⟩; have n0_ := Aside0.mk (Kd.R_below (aP HO_6.out) hb); have n1_ := Aside0.mk (Kd.R_below (aP HO_9.out) hb); have n2_ := Aside0.mk (below_step aB hb); clear HO_6; clear HO_9; clear HB; have HO_6 := n0_; have HO_9 := n1_; have HB := n2_; clear n0_ n1_ n2_; (try clear hb); (try clear hb2); (try clear hk); (try clear hi)))
           go_ret
           exact ⟨aS, aB⟩
     ·replace c29 := Bool.eq_false_iff.mpr c29
      subst c29
      have H1 : (some false) = some r := by rw [if_neg (show ¬ (false = true) by decide)] at H; exact H
      clear H
      have H := H1
      clear H1
      obtain rfl := Option.some.inj H
      go_wp2_with (first | ((with_reducible refine gate_callee (f := 17) rfl ?_); refine goesL_ (some 47) rfl rfl Tryd.func17 (by kernel_rfl) rfl #[.slice A0 l0.length c0] rfl aG ?_; (with_reducible refine (laws_toItemS.calls kj9 _ _ l0 t354 _ ?side1 ?side2 A27.out).mono ?_); (case side1 => repeat (first | exact (Kd.C_below HR0.out HB.out) | (with_reducible refine Kd.C_alloc ?_ _) | (with_reducible refine Kd.C_drewN ?_ _) | (with_reducible refine Kd.C_drew ?_))); (case side2 => exact HC0.out); rintro e w80 ⟨v355, rfl, ho0, hb⟩; refine ⟨_, rfl, ?_⟩; have n0_ := Aside0.mk (Kd.R_below (aP HO_6.out) hb); have n1_ := Aside0.mk (Kd.S_elder' (by (with_reducible repeat (first | apply Kd.S_alloc | apply Kd.S_drewN | apply Kd.S_drew)); exact HO_8.out) (Kd.S_base ho0) hb); have n2_ := Aside0.mk (Kd.R_below (aP HO_9.out) hb); have n3_ := Aside0.mk (Kd.S_lower (Kd.S_new' ho0 (Kd.S_lt (by (with_reducible repeat (first | apply Kd.S_alloc | apply Kd.S_drewN | apply Kd.S_drew)); exact HO_8.out))) (below_size aB)); have n4_ := Aside0.mk (below_step aB hb); clear HO_6; clear HO_8; clear HO_9; clear HB; have HO_6 := n0_; have HO_8 := n1_; have HO_9 := n2_; have HO356 := n3_; have HB := n4_; clear n0_ n1_ n2_ n3_ n4_; (try clear hb); (try clear hb2); (try clear hk); (try clear hi); (try clear ho0); obtain ⟨Ao81, co81, eo81⟩ := Kd.S_slice HO356.out; subst eo81) | ((with_reducible refine gate_callee (f := 19) rfl ?_); refine goesL_ (some 48) rfl rfl Tryd.func19 (by kernel_rfl) rfl #[.slice Ao16 t346.length co16, .slice Ao81 t354.length co81] rfl aG ?_; (with_reducible refine (laws_eqItemS.calls kj9 _ _ t346 _ _ t354 false _ ?side1 ?side2 ?side3 ?side4 A28.out).mono ?_); (case side1 => repeat (first | exact (Kd.S_reads' HO_8.out).2.2 | (with_reducible refine Kd.C_alloc ?_ _) | (with_reducible refine Kd.C_drewN ?_ _) | (with_reducible refine Kd.C_drew ?_))); (case side2 => exact (Kd.S_reads' HO_8.out).2.1); (case side3 => repeat (first | exact (Kd.S_reads' HO356.out).2.2 | (with_reducible refine Kd.C_alloc ?_ _) | (with_reducible refine Kd.C_drewN ?_ _) | (with_reducible refine Kd.C_drew ?_))); (case side4 => exact (Kd.S_reads' HO356.out).2.1); rintro e w82 ⟨rfl, hb⟩; refine ⟨_, rfl, ?_⟩; have n0_ := Aside0.mk (Kd.R_below (aP HO_6.out) hb); have n1_ := Aside0.mk (Kd.S_below (by (with_reducible repeat (first | apply Kd.S_alloc | apply Kd.S_drewN | apply Kd.S_drew)); exact HO_8.out) hb); have n2_ := Aside0.mk (Kd.R_below (aP HO_9.out) hb); have n3_ := Aside0.mk (Kd.S_below (by (with_reducible repeat (first | apply Kd.S_alloc | apply Kd.S_drewN | apply Kd.S_drew)); exact HO356.out) hb); have n4_ := Aside0.mk (below_step aB hb); clear HO_6; clear HO_8; clear HO_9; clear HO356; clear HB; have HO_6 := n0_; have HO_8 := n1_; have HO_9 := n2_; have HO356 := n3_; have HB := n4_; clear n0_ n1_ n2_ n3_ n4_; (try clear hb); (try clear hb2); (try clear hk); (try clear hi)))
      go_ret
      exact ⟨aS, aB⟩
def WF141 (x : S141) : Prop := x.f0.size ≤ 140737488351232 ∧ x.f1.size ≤ 140737488351232
def WF71 (x : S71) : Prop := (Lit.int .i64 x.f0).wf = true ∧ x.f1.size ≤ 140737488351232 ∧ x.f2.size ≤ 140737488351232 ∧ x.f3.length * 32 ≤ 140737488351232 ∧ (∀ y_ ∈ x.f3, WF141 y_)

def laws_FnExactAttrNames.Pure : Prop := ∀ (l0 : List (S71)) (a1 : Int), l0.length * 64 ≤ 140737488351232 → (∀ y_ ∈ l0, WF71 y_) → (Lit.int .i64 a1).wf = true → ∃ k, laws_FnExactAttrNames.f k l0 a1 = some true

end Go.Proofs.YtbhklkpjjpkblaaDoor.PJ
