import Derived.Test.YtbhklkpjjpkblaaDoorHShort
import Derived.Test.YtbhklkpjjpkblaaDoorPIx0
import Derived.Test.YtbhklkpjjpkblaaDoorPIx2
import Derived.Test.YtbhklkpjjpkblaaDoorPIx3
import Derived.Test.YtbhklkpjjpkblaaDoorPIx4
import Derived.Test.YtbhklkpjjpkblaaDoorPIx5
import Derived.Test.YtbhklkpjjpkblaaDoorPIx12
import Derived.Test.YtbhklkpjjpkblaaDoorPIx19
namespace Go.Proofs.YtbhklkpjjpkblaaDoor.PI
open Go.RowKit Go.Proofs.YtbhklkpjjpkblaaDoorW.PrintWords Go.Proofs.YtbhklkpjjpkblaaDoorW.PrintLast Go.Proofs.YtbhklkpjjpkblaaDoorW.PrintMore Go.Proofs.YtbhklkpjjpkblaaDoorW.WordsB Go.Proofs.YtbhklkpjjpkblaaDoorW.GlM Go.Proofs.YtbhklkpjjpkblaaDoorW.Short
attribute [local go_sem] max2_int min2_int max_two min_two max_three min_three max_four min_four
set_option linter.unusedVariables false
set_option linter.unusedSimpArgs false
mutual
def laws_FnExactNamesOf.j0 : Nat → List (S71) → List (S92) → Bool → List (S74) → List (S92) → Bool → Bool → Option (Bool)
 | 0, _, _, _, _, _, _, _ => none
 | k + 1, x0, x4, x5, x6, x7, x8, x40 => if x40 = true then (some false) else ((laws_toItemS.f k x0).bind fun t384 => ((laws_eqItemS.f k x6 t384).bind fun t387 => (if t387 = true then ((laws_markItemS.f x6 1).bind fun t388 => (if t388 < 0 then (laws_FnExactNamesOf.j1 k x0 x4 x5 x7 true) else ((laws_eqQNameS.f k x7 x4).bind fun t389 => (if t389 = true then (laws_FnExactNamesOf.j1 k x0 x4 x5 x7 (x8 != x5)) else (laws_FnExactNamesOf.j1 k x0 x4 x5 x7 true))))) else (some false))))
def laws_FnExactNamesOf.j1 : Nat → List (S71) → List (S92) → Bool → List (S92) → Bool → Option (Bool)
 | 0, _, _, _, _, _ => none
 | k + 1, x0, x4, x5, x7, x61 => if x61 = true then (some false) else ((laws_markQNameS.f k x7 1).bind fun bt390 => ((laws_heldQNameS.f k bt390.2 1).bind fun t392 => (if t392 < 0 then (some false) else (if t392 = bt390.1 then ((laws_toItemS.f k x0).bind fun t393 => ((impl_NamesOf.f k t393).bind fun bt396 => ((laws_eqQNameS.f k bt396.1 x4).bind fun t400 => (if t400 = true then (laws_FnExactNamesOf.j2 k bt390.2 bt390.1 (bt396.2 != x5)) else (laws_FnExactNamesOf.j2 k bt390.2 bt390.1 true))))) else (some false)))))
def laws_FnExactNamesOf.j2 : Nat → List (S92) → Int → Bool → Option (Bool)
 | 0, _, _, _ => none
 | k + 1, x7, x10, x87 => if x87 = true then (some false) else ((laws_heldQNameS.f k x7 1).bind fun t401 => (if t401 < 0 then (some false) else (if t401 = x10 then (some true) else (some false))))
end
def laws_FnExactNamesOf.f (k : Nat) (l0 : List (S71)) : Option (Bool) := (laws_szItemS.f k l0 1048576).bind fun t368 => (if t368 < 0 then (some true) else ((laws_toItemS.f k l0).bind fun t369 => ((spec_NamesOf.f k t369).bind fun bt372 => ((laws_toItemS.f k l0).bind fun t376 => ((impl_NamesOf.f k t376).bind fun bt379 => ((laws_eqQNameS.f k bt379.1 bt372.1).bind fun t383 => (if t383 = true then (laws_FnExactNamesOf.j0 k l0 bt372.1 bt372.2 t376 bt379.1 bt379.2 (bt379.2 != bt372.2)) else (laws_FnExactNamesOf.j0 k l0 bt372.1 bt372.2 t376 bt379.1 bt379.2 true))))))))
set_option maxHeartbeats 8000000 in
set_option maxRecDepth 100000 in
theorem laws_FnExactNamesOf.calls (k : Nat) (A0 : Option Addr) (c0 : Nat) (l0 : List (S71)) (r : Bool) (w : World) (hgl : GL w) (hr0 : Kd.C k71 w A0 l0.length l0) (hc0 : l0.length ≤ c0) (h : laws_FnExactNamesOf.f k l0 = some r) :
  Calls Tryd.prog 10 #[.slice A0 l0.length c0] w fun e w' => e = .returned (.bool r) ∧ Below w.heap.size w w' := by
 have HGL := Aside0.mk hgl
 clear hgl
 have HR0 := Aside0.mk hr0
 have HC0 := Aside0.mk hc0
 clear hr0 hc0
 have HB := Aside0.mk (Below.refl w.heap.size w)
 have H : ((laws_szItemS.f k l0 1048576).bind fun t368 => (if t368 < 0 then (some true) else ((laws_toItemS.f k l0).bind fun t369 => ((spec_NamesOf.f k t369).bind fun bt372 => ((laws_toItemS.f k l0).bind fun t376 => ((impl_NamesOf.f k t376).bind fun bt379 => ((laws_eqQNameS.f k bt379.1 bt372.1).bind fun t383 => (if t383 = true then (laws_FnExactNamesOf.j0 k l0 bt372.1 bt372.2 t376 bt379.1 bt379.2 (bt379.2 != bt372.2)) else (laws_FnExactNamesOf.j0 k l0 bt372.1 bt372.2 t376 bt379.1 bt379.2 true))))))))) = some r := h
 clear h
 replace H := Option.bind_eq_some_iff.mp H
 obtain ⟨t368, A20, H⟩ := H
 replace H : (if t368 < 0 then (some true) else ((laws_toItemS.f k l0).bind fun t369 => ((spec_NamesOf.f k t369).bind fun bt372 => ((laws_toItemS.f k l0).bind fun t376 => ((impl_NamesOf.f k t376).bind fun bt379 => ((laws_eqQNameS.f k bt379.1 bt372.1).bind fun t383 => (if t383 = true then (laws_FnExactNamesOf.j0 k l0 bt372.1 bt372.2 t376 bt379.1 bt379.2 (bt379.2 != bt372.2)) else (laws_FnExactNamesOf.j0 k l0 bt372.1 bt372.2 t376 bt379.1 bt379.2 true)))))))) = some r := H
 have A2 := Aside0.mk A20
 clear A20
 by_cases c3 : t368 < 0
 ·rw [if_pos c3] at H
  have c3b0 : decide (t368 < 0) = true := decide_eq_true c3
  clear c3
  obtain rfl := Option.some.inj H
  go_enter Tryd.func10, Tryd.ntmps10
  go_wp2_with (first | ((with_reducible refine gate_callee (f := 15) rfl ?_); refine goesL_ (some 16) rfl rfl Tryd.func15 (by kernel_rfl) rfl #[.slice A0 l0.length c0, .int .i64 1048576] rfl aG ?_; (with_reducible refine (laws_szItemS.calls k _ _ l0 1048576 t368 _ ?side1 ?side2 A2.out).mono ?_); (case side1 => repeat (first | exact HR0.out | (with_reducible refine Kd.C_alloc ?_ _) | (with_reducible refine Kd.C_drewN ?_ _) | (with_reducible refine Kd.C_drew ?_))); (case side2 => exact HC0.out); rintro e w4 ⟨rfl, hb⟩; refine ⟨_, rfl, ?_⟩; have n0_ := Aside0.mk (below_step aB hb); clear HB; have HB := n0_; clear n0_; (try clear hb); (try clear hb2); (try clear hk); (try clear hi)))
  go_ret
  exact ⟨aS, aB⟩
 rw [if_neg c3] at H
 have c3b0 : decide (t368 < 0) = false := decide_eq_false c3
 clear c3
 replace H := Option.bind_eq_some_iff.mp H
 obtain ⟨t369, A50, H⟩ := H
 replace H : ((spec_NamesOf.f k t369).bind fun bt372 => ((laws_toItemS.f k l0).bind fun t376 => ((impl_NamesOf.f k t376).bind fun bt379 => ((laws_eqQNameS.f k bt379.1 bt372.1).bind fun t383 => (if t383 = true then (laws_FnExactNamesOf.j0 k l0 bt372.1 bt372.2 t376 bt379.1 bt379.2 (bt379.2 != bt372.2)) else (laws_FnExactNamesOf.j0 k l0 bt372.1 bt372.2 t376 bt379.1 bt379.2 true)))))) = some r := H
 have A5 := Aside0.mk A50
 clear A50
 replace H := Option.bind_eq_some_iff.mp H
 obtain ⟨⟨t372, t373⟩, A60, H⟩ := H
 replace H : ((laws_toItemS.f k l0).bind fun t376 => ((impl_NamesOf.f k t376).bind fun bt379 => ((laws_eqQNameS.f k bt379.1 t372).bind fun t383 => (if t383 = true then (laws_FnExactNamesOf.j0 k l0 t372 t373 t376 bt379.1 bt379.2 (bt379.2 != t373)) else (laws_FnExactNamesOf.j0 k l0 t372 t373 t376 bt379.1 bt379.2 true))))) = some r := H
 have A6 := Aside0.mk A60
 clear A60
 replace H := Option.bind_eq_some_iff.mp H
 obtain ⟨t376, A70, H⟩ := H
 replace H : ((impl_NamesOf.f k t376).bind fun bt379 => ((laws_eqQNameS.f k bt379.1 t372).bind fun t383 => (if t383 = true then (laws_FnExactNamesOf.j0 k l0 t372 t373 t376 bt379.1 bt379.2 (bt379.2 != t373)) else (laws_FnExactNamesOf.j0 k l0 t372 t373 t376 bt379.1 bt379.2 true)))) = some r := H
 have A7 := Aside0.mk A70
 clear A70
 replace H := Option.bind_eq_some_iff.mp H
 obtain ⟨⟨t379, t380⟩, A80, H⟩ := H
 replace H : ((laws_eqQNameS.f k t379 t372).bind fun t383 => (if t383 = true then (laws_FnExactNamesOf.j0 k l0 t372 t373 t376 t379 t380 (t380 != t373)) else (laws_FnExactNamesOf.j0 k l0 t372 t373 t376 t379 t380 true))) = some r := H
 have A8 := Aside0.mk A80
 clear A80
 have HC9 := Aside0.mk H
 clear H
 go_enter Tryd.func10, Tryd.ntmps10
 go_upto_region 8 with (first | ((with_reducible refine gate_callee (f := 15) rfl ?_); refine goesL_ (some 16) rfl rfl Tryd.func15 (by kernel_rfl) rfl #[.slice A0 l0.length c0, .int .i64 1048576] rfl aG ?_; (with_reducible refine (laws_szItemS.calls k _ _ l0 1048576 t368 _ ?side1 ?side2 A2.out).mono ?_); (case side1 => repeat (first | exact HR0.out | (with_reducible refine Kd.C_alloc ?_ _) | (with_reducible refine Kd.C_drewN ?_ _) | (with_reducible refine Kd.C_drew ?_))); (case side2 => exact HC0.out); rintro e w10 ⟨rfl, hb⟩; refine ⟨_, rfl, ?_⟩; have n0_ := Aside0.mk (below_step aB hb); clear HB; have HB := n0_; clear n0_; (try clear hb); (try clear hb2); (try clear hk); (try clear hi)) | ((with_reducible refine gate_callee (f := 17) rfl ?_); refine goesL_ (some 21) rfl rfl Tryd.func17 (by kernel_rfl) rfl #[.slice A0 l0.length c0] rfl aG ?_; (with_reducible refine (laws_toItemS.calls k _ _ l0 t369 _ ?side1 ?side2 A5.out).mono ?_); (case side1 => repeat (first | exact (Kd.C_below HR0.out HB.out) | (with_reducible refine Kd.C_alloc ?_ _) | (with_reducible refine Kd.C_drewN ?_ _) | (with_reducible refine Kd.C_drew ?_))); (case side2 => exact HC0.out); rintro e w11 ⟨v370, rfl, ho0, hb⟩; refine ⟨_, rfl, ?_⟩; have n0_ := Aside0.mk (Kd.S_lower ho0 (below_size aB)); have n1_ := Aside0.mk (below_step aB hb); clear HB; have HO371 := n0_; have HB := n1_; clear n0_ n1_; (try clear hb); (try clear hb2); (try clear hk); (try clear hi); (try clear ho0); obtain ⟨Ao12, co12, eo12⟩ := Kd.S_slice HO371.out; subst eo12) | ((with_reducible refine gate_callee (f := 35) rfl ?_); refine goesL_ (some 22) rfl rfl Tryd.func35 (by kernel_rfl) rfl #[.slice Ao12 t369.length co12] rfl aG ?_; (with_reducible refine (spec_NamesOf.calls k _ _ t369 t372 t373 _ ?side1 ?side2 A6.out).mono ?_); (case side1 => repeat (first | exact (Kd.S_reads' HO371.out).2.2 | (with_reducible refine Kd.C_alloc ?_ _) | (with_reducible refine Kd.C_drewN ?_ _) | (with_reducible refine Kd.C_drew ?_))); (case side2 => exact (Kd.S_reads' HO371.out).2.1); rintro e w13 ⟨v374, rfl, ho0, hb⟩; refine ⟨_, rfl, ?_⟩; have n0_ := Aside0.mk (Kd.S_below (by (with_reducible repeat (first | apply Kd.S_alloc | apply Kd.S_drewN | apply Kd.S_drew)); exact HO371.out) hb); have n1_ := Aside0.mk (Kd.R_lower ho0 (below_size aB)); have n2_ := Aside0.mk (below_step aB hb); clear HO371; clear HB; have HO371 := n0_; have HO375 := n1_; have HB := n2_; clear n0_ n1_ n2_; (try clear hb); (try clear hb2); (try clear hk); (try clear hi); (try clear ho0)) | ((with_reducible refine gate_callee (f := 17) rfl ?_); refine goesL_ (some 26) rfl rfl Tryd.func17 (by kernel_rfl) rfl #[.slice A0 l0.length c0] rfl aG ?_; (with_reducible refine (laws_toItemS.calls k _ _ l0 t376 _ ?side1 ?side2 A7.out).mono ?_); (case side1 => repeat (first | exact (Kd.C_below HR0.out HB.out) | (with_reducible refine Kd.C_alloc ?_ _) | (with_reducible refine Kd.C_drewN ?_ _) | (with_reducible refine Kd.C_drew ?_))); (case side2 => exact HC0.out); rintro e w14 ⟨v377, rfl, ho0, hb⟩; refine ⟨_, rfl, ?_⟩; have n0_ := Aside0.mk (Kd.S_elder' (by (with_reducible repeat (first | apply Kd.S_alloc | apply Kd.S_drewN | apply Kd.S_drew)); exact HO371.out) (Kd.S_base ho0) hb); have n1_ := Aside0.mk (Kd.R_below (aP HO375.out) hb); have n2_ := Aside0.mk (Kd.S_lower (Kd.S_new' ho0 (Kd.S_lt (by (with_reducible repeat (first | apply Kd.S_alloc | apply Kd.S_drewN | apply Kd.S_drew)); exact HO371.out))) (below_size aB)); have n3_ := Aside0.mk (below_step aB hb); clear HO371; clear HO375; clear HB; have HO371 := n0_; have HO375 := n1_; have HO378 := n2_; have HB := n3_; clear n0_ n1_ n2_ n3_; (try clear hb); (try clear hb2); (try clear hk); (try clear hi); (try clear ho0); obtain ⟨Ao15, co15, eo15⟩ := Kd.S_slice HO378.out; subst eo15) | ((with_reducible refine gate_callee (f := 36) rfl ?_); refine goesL_ (some 29) rfl rfl Tryd.func36 (by kernel_rfl) rfl #[.slice Ao15 t376.length co15] rfl aG ?_; (with_reducible refine (impl_NamesOf.calls k _ _ t376 t379 t380 _ ?side1 ?side2 ?side3 A8.out).mono ?_); (case side1 => exact GL.below HGL.out aB); (case side2 => repeat (first | exact (Kd.S_reads' HO378.out).2.2 | (with_reducible refine Kd.C_alloc ?_ _) | (with_reducible refine Kd.C_drewN ?_ _) | (with_reducible refine Kd.C_drew ?_))); (case side3 => exact (Kd.S_reads' HO378.out).2.1); rintro e w16 ⟨v381, rfl, ho0, hb⟩; refine ⟨_, rfl, ?_⟩; have n0_ := Aside0.mk (Kd.S_below (by (with_reducible repeat (first | apply Kd.S_alloc | apply Kd.S_drewN | apply Kd.S_drew)); exact HO371.out) hb); have n1_ := Aside0.mk (Kd.R_elder' (aP HO375.out) (Kd.R_base ho0) hb); have n2_ := Aside0.mk (Kd.S_below (by (with_reducible repeat (first | apply Kd.S_alloc | apply Kd.S_drewN | apply Kd.S_drew)); exact HO378.out) hb); have n3_ := Aside0.mk (Kd.R_lower (Kd.R_new' ho0 (Kd.R_lt (aP HO375.out))) (below_size aB)); have n4_ := Aside0.mk (below_step aB hb); clear HO371; clear HO375; clear HO378; clear HB; have HO371 := n0_; have HO375 := n1_; have HO378 := n2_; have HO382 := n3_; have HB := n4_; clear n0_ n1_ n2_ n3_ n4_; (try clear hb); (try clear hb2); (try clear hk); (try clear hi); (try clear ho0)))
 (try simp only [Act.put, List.setIfInBounds_toArray, List.set_cons_zero, List.set_cons_succ])
 go_cut [40] (fun v40 wc => ∃ (kq : Nat) (x40_8 : Bool), v40 = .bool x40_8 ∧ Aside0 (laws_FnExactNamesOf.j0 kq l0 t372 t373 t376 t379 t380 x40_8 = some r) ∧ Aside0 (kq ≤ k) ∧ Aside0 (Kd.R k92 92 wc w.heap.size (fun k_ => some k_ ≠ (v381 : Value).ownBlock) v374 t372) ∧ Aside0 (Kd.S k74 74 wc w.heap.size (fun _ => True) (.slice Ao15 t376.length co15) t376) ∧ Aside0 (Kd.R k92 92 wc w.heap.size (fun k_ => some k_ ≠ (v374 : Value).ownBlock) v381 t379) ∧ Aside0 (Below w.heap.size w wc))
 case first =>
  have H := HC9.out
  clear HC9
  replace H := Option.bind_eq_some_iff.mp H
  obtain ⟨t383, A170, H⟩ := H
  replace H : (if t383 = true then (laws_FnExactNamesOf.j0 k l0 t372 t373 t376 t379 t380 (t380 != t373)) else (laws_FnExactNamesOf.j0 k l0 t372 t373 t376 t379 t380 true)) = some r := H
  have A17 := Aside0.mk A170
  clear A170
  by_cases c18 : t383 = true
  ·subst c18
   have H1 : (laws_FnExactNamesOf.j0 k l0 t372 t373 t376 t379 t380 (t380 != t373)) = some r := by rw [if_pos rfl] at H; exact H
   clear H
   have H := H1
   clear H1
   have H' := Aside0.mk H
   clear H
   obtain ⟨Ao19, co19, eo19⟩ := Kd.R_slice HO382.out
   subst eo19
   obtain ⟨Ao20, co20, eo20⟩ := Kd.R_slice HO375.out
   subst eo20
   go_wp2_with (first | ((with_reducible refine gate_callee (f := 32) rfl ?_); refine goesL_ (some 34) rfl rfl Tryd.func32 (by kernel_rfl) rfl #[.slice Ao19 t379.length co19, .slice Ao20 t372.length co20] rfl aG ?_; (with_reducible refine (laws_eqQNameS.calls k _ _ t379 _ _ t372 true _ ?side1 ?side2 ?side3 ?side4 A17.out).mono ?_); (case side1 => repeat (first | exact (Kd.R_reads' HO382.out).2.2 | (with_reducible refine Kd.C_alloc ?_ _) | (with_reducible refine Kd.C_drewN ?_ _) | (with_reducible refine Kd.C_drew ?_))); (case side2 => exact (Kd.R_reads' HO382.out).2.1); (case side3 => repeat (first | exact (Kd.R_reads' HO375.out).2.2 | (with_reducible refine Kd.C_alloc ?_ _) | (with_reducible refine Kd.C_drewN ?_ _) | (with_reducible refine Kd.C_drew ?_))); (case side4 => exact (Kd.R_reads' HO375.out).2.1); rintro e w21 ⟨rfl, hb⟩; refine ⟨_, rfl, ?_⟩; have n0_ := Aside0.mk (Kd.S_below (by (with_reducible repeat (first | apply Kd.S_alloc | apply Kd.S_drewN | apply Kd.S_drew)); exact HO371.out) hb); have n1_ := Aside0.mk (Kd.R_below (aP HO375.out) hb); have n2_ := Aside0.mk (Kd.S_below (by (with_reducible repeat (first | apply Kd.S_alloc | apply Kd.S_drewN | apply Kd.S_drew)); exact HO378.out) hb); have n3_ := Aside0.mk (Kd.R_below (aP HO382.out) hb); have n4_ := Aside0.mk (below_step aB hb); clear HO371; clear HO375; clear HO378; clear HO382; clear HB; have HO371 := n0_; have HO375 := n1_; have HO378 := n2_; have HO382 := n3_; have HB := n4_; clear n0_ n1_ n2_ n3_ n4_; (try clear hb); (try clear hb2); (try clear hk); (try clear hi)))
   go_meet
   case rel => exact ⟨_, ((t380 != t373)), aR, H', ⟨by first | omega | exact Nat.le_refl _⟩, ⟨by (with_reducible repeat (first | apply Kd.R_alloc | apply Kd.R_drewN | apply Kd.R_drew)); exact Kd.R_mono HO375.out (fun _ hk => hk.2)⟩, ⟨by (with_reducible repeat (first | apply Kd.S_alloc | apply Kd.S_drewN | apply Kd.S_drew)); exact Kd.S_mono HO378.out (fun _ hk => trivial)⟩, ⟨by (with_reducible repeat (first | apply Kd.R_alloc | apply Kd.R_drewN | apply Kd.R_drew)); exact Kd.R_mono HO382.out (fun _ hk => hk.2)⟩, ⟨aB⟩⟩
  replace c18 := Bool.eq_false_iff.mpr c18
  subst c18
  have H1 : (laws_FnExactNamesOf.j0 k l0 t372 t373 t376 t379 t380 true) = some r := by rw [if_neg (show ¬ (false = true) by decide)] at H; exact H
  clear H
  have H := H1
  clear H1
  have H' := Aside0.mk H
  clear H
  obtain ⟨Ao22, co22, eo22⟩ := Kd.R_slice HO382.out
  subst eo22
  obtain ⟨Ao23, co23, eo23⟩ := Kd.R_slice HO375.out
  subst eo23
  go_wp2_with (first | ((with_reducible refine gate_callee (f := 32) rfl ?_); refine goesL_ (some 34) rfl rfl Tryd.func32 (by kernel_rfl) rfl #[.slice Ao22 t379.length co22, .slice Ao23 t372.length co23] rfl aG ?_; (with_reducible refine (laws_eqQNameS.calls k _ _ t379 _ _ t372 false _ ?side1 ?side2 ?side3 ?side4 A17.out).mono ?_); (case side1 => repeat (first | exact (Kd.R_reads' HO382.out).2.2 | (with_reducible refine Kd.C_alloc ?_ _) | (with_reducible refine Kd.C_drewN ?_ _) | (with_reducible refine Kd.C_drew ?_))); (case side2 => exact (Kd.R_reads' HO382.out).2.1); (case side3 => repeat (first | exact (Kd.R_reads' HO375.out).2.2 | (with_reducible refine Kd.C_alloc ?_ _) | (with_reducible refine Kd.C_drewN ?_ _) | (with_reducible refine Kd.C_drew ?_))); (case side4 => exact (Kd.R_reads' HO375.out).2.1); rintro e w24 ⟨rfl, hb⟩; refine ⟨_, rfl, ?_⟩; have n0_ := Aside0.mk (Kd.S_below (by (with_reducible repeat (first | apply Kd.S_alloc | apply Kd.S_drewN | apply Kd.S_drew)); exact HO371.out) hb); have n1_ := Aside0.mk (Kd.R_below (aP HO375.out) hb); have n2_ := Aside0.mk (Kd.S_below (by (with_reducible repeat (first | apply Kd.S_alloc | apply Kd.S_drewN | apply Kd.S_drew)); exact HO378.out) hb); have n3_ := Aside0.mk (Kd.R_below (aP HO382.out) hb); have n4_ := Aside0.mk (below_step aB hb); clear HO371; clear HO375; clear HO378; clear HO382; clear HB; have HO371 := n0_; have HO375 := n1_; have HO378 := n2_; have HO382 := n3_; have HB := n4_; clear n0_ n1_ n2_ n3_ n4_; (try clear hb); (try clear hb2); (try clear hk); (try clear hi)))
  go_meet
  case rel => exact ⟨_, (true), aR, H', ⟨by first | omega | exact Nat.le_refl _⟩, ⟨by (with_reducible repeat (first | apply Kd.R_alloc | apply Kd.R_drewN | apply Kd.R_drew)); exact Kd.R_mono HO375.out (fun _ hk => hk.2)⟩, ⟨by (with_reducible repeat (first | apply Kd.S_alloc | apply Kd.S_drewN | apply Kd.S_drew)); exact Kd.S_mono HO378.out (fun _ hk => trivial)⟩, ⟨by (with_reducible repeat (first | apply Kd.R_alloc | apply Kd.R_drewN | apply Kd.R_drew)); exact Kd.R_mono HO382.out (fun _ hk => hk.2)⟩, ⟨aB⟩⟩
 case rest =>
  clear HC9
  try clear c1
  try clear p2
  try clear c3
  try clear c3b0
  try clear c10
  try clear c15
  try clear c17
  try clear c18
  obtain ⟨kq, x40_8, rfl, HA, HJ8, HO_4, HO_6, HO_7, HB⟩ := hcut
  cases kq with
  | zero => exact absurd HA.out (by simp [laws_FnExactNamesOf.j0])
  | succ kj8 =>
   have H := HA.out
   clear HA
   simp only [laws_FnExactNamesOf.j0] at H
   by_cases c25 : x40_8 = true
   ·subst c25
    have H1 : (some false) = some r := by rw [if_pos rfl] at H; exact H
    clear H
    have H := H1
    clear H1
    obtain rfl := Option.some.inj H
    go_wp2
    go_ret
    exact ⟨aS, aB⟩
   replace c25 := Bool.eq_false_iff.mpr c25
   subst c25
   have H1 : ((laws_toItemS.f kj8 l0).bind fun t384 => ((laws_eqItemS.f kj8 t376 t384).bind fun t387 => (if t387 = true then ((laws_markItemS.f t376 1).bind fun t388 => (if t388 < 0 then (laws_FnExactNamesOf.j1 kj8 l0 t372 t373 t379 true) else ((laws_eqQNameS.f kj8 t379 t372).bind fun t389 => (if t389 = true then (laws_FnExactNamesOf.j1 kj8 l0 t372 t373 t379 (t380 != t373)) else (laws_FnExactNamesOf.j1 kj8 l0 t372 t373 t379 true))))) else (some false)))) = some r := by rw [if_neg (show ¬ (false = true) by decide)] at H; exact H
   clear H
   have H := H1
   clear H1
   replace H := Option.bind_eq_some_iff.mp H
   obtain ⟨t384, A260, H⟩ := H
   replace H : ((laws_eqItemS.f kj8 t376 t384).bind fun t387 => (if t387 = true then ((laws_markItemS.f t376 1).bind fun t388 => (if t388 < 0 then (laws_FnExactNamesOf.j1 kj8 l0 t372 t373 t379 true) else ((laws_eqQNameS.f kj8 t379 t372).bind fun t389 => (if t389 = true then (laws_FnExactNamesOf.j1 kj8 l0 t372 t373 t379 (t380 != t373)) else (laws_FnExactNamesOf.j1 kj8 l0 t372 t373 t379 true))))) else (some false))) = some r := H
   have A26 := Aside0.mk A260
   clear A260
   replace H := Option.bind_eq_some_iff.mp H
   obtain ⟨t387, A270, H⟩ := H
   replace H : (if t387 = true then ((laws_markItemS.f t376 1).bind fun t388 => (if t388 < 0 then (laws_FnExactNamesOf.j1 kj8 l0 t372 t373 t379 true) else ((laws_eqQNameS.f kj8 t379 t372).bind fun t389 => (if t389 = true then (laws_FnExactNamesOf.j1 kj8 l0 t372 t373 t379 (t380 != t373)) else (laws_FnExactNamesOf.j1 kj8 l0 t372 t373 t379 true))))) else (some false)) = some r := H
   have A27 := Aside0.mk A270
   clear A270
   by_cases c28 : t387 = true
   rotate_left
   ·replace c28 := Bool.eq_false_iff.mpr c28
    subst c28
    have H1 : (some false) = some r := by rw [if_neg (show ¬ (false = true) by decide)] at H; exact H
    clear H
    have H := H1
    clear H1
    obtain rfl := Option.some.inj H
    go_wp2_with (first | ((with_reducible refine gate_callee (f := 17) rfl ?_); refine goesL_ (some 43) rfl rfl Tryd.func17 (by kernel_rfl) rfl #[.slice A0 l0.length c0] rfl aG ?_; (with_reducible refine (laws_toItemS.calls kj8 _ _ l0 t384 _ ?side1 ?side2 A26.out).mono ?_); (case side1 => repeat (first | exact (Kd.C_below HR0.out HB.out) | (with_reducible refine Kd.C_alloc ?_ _) | (with_reducible refine Kd.C_drewN ?_ _) | (with_reducible refine Kd.C_drew ?_))); (case side2 => exact HC0.out); rintro e w79 ⟨v385, rfl, ho0, hb⟩; refine ⟨_, rfl, ?_⟩; have n0_ := Aside0.mk (Kd.R_below (aP HO_4.out) hb); have n1_ := Aside0.mk (Kd.S_elder' (by (with_reducible repeat (first | apply Kd.S_alloc | apply Kd.S_drewN | apply Kd.S_drew)); exact HO_6.out) (Kd.S_base ho0) hb); have n2_ := Aside0.mk (Kd.R_below (aP HO_7.out) hb); have n3_ := Aside0.mk (Kd.S_lower (Kd.S_new' ho0 (Kd.S_lt (by (with_reducible repeat (first | apply Kd.S_alloc | apply Kd.S_drewN | apply Kd.S_drew)); exact HO_6.out))) (below_size aB)); have n4_ := Aside0.mk (below_step aB hb); clear HO_4; clear HO_6; clear HO_7; clear HB; have HO_4 := n0_; have HO_6 := n1_; have HO_7 := n2_; have HO386 := n3_; have HB := n4_; clear n0_ n1_ n2_ n3_ n4_; (try clear hb); (try clear hb2); (try clear hk); (try clear hi); (try clear ho0); obtain ⟨Ao80, co80, eo80⟩ := Kd.S_slice HO386.out; subst eo80) | ((with_reducible refine gate_callee (f := 19) rfl ?_); refine goesL_ (some 44) rfl rfl Tryd.func19 (by kernel_rfl) rfl #[.slice Ao15 t376.length co15, .slice Ao80 t384.length co80] rfl aG ?_; (with_reducible refine (laws_eqItemS.calls kj8 _ _ t376 _ _ t384 false _ ?side1 ?side2 ?side3 ?side4 A27.out).mono ?_); (case side1 => repeat (first | exact (Kd.S_reads' HO_6.out).2.2 | (with_reducible refine Kd.C_alloc ?_ _) | (with_reducible refine Kd.C_drewN ?_ _) | (with_reducible refine Kd.C_drew ?_))); (case side2 => exact (Kd.S_reads' HO_6.out).2.1); (case side3 => repeat (first | exact (Kd.S_reads' HO386.out).2.2 | (with_reducible refine Kd.C_alloc ?_ _) | (with_reducible refine Kd.C_drewN ?_ _) | (with_reducible refine Kd.C_drew ?_))); (case side4 => exact (Kd.S_reads' HO386.out).2.1); rintro e w81 ⟨rfl, hb⟩; refine ⟨_, rfl, ?_⟩; have n0_ := Aside0.mk (Kd.R_below (aP HO_4.out) hb); have n1_ := Aside0.mk (Kd.S_below (by (with_reducible repeat (first | apply Kd.S_alloc | apply Kd.S_drewN | apply Kd.S_drew)); exact HO_6.out) hb); have n2_ := Aside0.mk (Kd.R_below (aP HO_7.out) hb); have n3_ := Aside0.mk (Kd.S_below (by (with_reducible repeat (first | apply Kd.S_alloc | apply Kd.S_drewN | apply Kd.S_drew)); exact HO386.out) hb); have n4_ := Aside0.mk (below_step aB hb); clear HO_4; clear HO_6; clear HO_7; clear HO386; clear HB; have HO_4 := n0_; have HO_6 := n1_; have HO_7 := n2_; have HO386 := n3_; have HB := n4_; clear n0_ n1_ n2_ n3_ n4_; (try clear hb); (try clear hb2); (try clear hk); (try clear hi)))
    go_ret
    exact ⟨aS, aB⟩
   subst c28
   have H1 : ((laws_markItemS.f t376 1).bind fun t388 => (if t388 < 0 then (laws_FnExactNamesOf.j1 kj8 l0 t372 t373 t379 true) else ((laws_eqQNameS.f kj8 t379 t372).bind fun t389 => (if t389 = true then (laws_FnExactNamesOf.j1 kj8 l0 t372 t373 t379 (t380 != t373)) else (laws_FnExactNamesOf.j1 kj8 l0 t372 t373 t379 true))))) = some r := by rw [if_pos rfl] at H; exact H
   clear H
   have H := H1
   clear H1
   replace H := Option.bind_eq_some_iff.mp H
   obtain ⟨t388, A290, H⟩ := H
   replace H : (if t388 < 0 then (laws_FnExactNamesOf.j1 kj8 l0 t372 t373 t379 true) else ((laws_eqQNameS.f kj8 t379 t372).bind fun t389 => (if t389 = true then (laws_FnExactNamesOf.j1 kj8 l0 t372 t373 t379 (t380 != t373)) else (laws_FnExactNamesOf.j1 kj8 l0 t372 t373 t379 true)))) = some r := H
   have A29 := Aside0.mk A290
   clear A290
   have HC30 := Aside0.mk H
   clear H
   go_upto_region 14 with (first | ((with_reducible refine gate_callee (f := 17) rfl ?_); refine goesL_ (some 43) rfl rfl Tryd.func17 (by kernel_rfl) rfl #[.slice A0 l0.length c0] rfl aG ?_; (with_reducible refine (laws_toItemS.calls kj8 _ _ l0 t384 _ ?side1 ?side2 A26.out).mono ?_); (case side1 => repeat (first | exact (Kd.C_below HR0.out HB.out) | (with_reducible refine Kd.C_alloc ?_ _) | (with_reducible refine Kd.C_drewN ?_ _) | (with_reducible refine Kd.C_drew ?_))); (case side2 => exact HC0.out); rintro e w31 ⟨v385, rfl, ho0, hb⟩; refine ⟨_, rfl, ?_⟩; have n0_ := Aside0.mk (Kd.R_below (aP HO_4.out) hb); have n1_ := Aside0.mk (Kd.S_elder' (by (with_reducible repeat (first | apply Kd.S_alloc | apply Kd.S_drewN | apply Kd.S_drew)); exact HO_6.out) (Kd.S_base ho0) hb); have n2_ := Aside0.mk (Kd.R_below (aP HO_7.out) hb); have n3_ := Aside0.mk (Kd.S_lower (Kd.S_new' ho0 (Kd.S_lt (by (with_reducible repeat (first | apply Kd.S_alloc | apply Kd.S_drewN | apply Kd.S_drew)); exact HO_6.out))) (below_size aB)); have n4_ := Aside0.mk (below_step aB hb); clear HO_4; clear HO_6; clear HO_7; clear HB; have HO_4 := n0_; have HO_6 := n1_; have HO_7 := n2_; have HO386 := n3_; have HB := n4_; clear n0_ n1_ n2_ n3_ n4_; (try clear hb); (try clear hb2); (try clear hk); (try clear hi); (try clear ho0); obtain ⟨Ao32, co32, eo32⟩ := Kd.S_slice HO386.out; subst eo32) | ((with_reducible refine gate_callee (f := 19) rfl ?_); refine goesL_ (some 44) rfl rfl Tryd.func19 (by kernel_rfl) rfl #[.slice Ao15 t376.length co15, .slice Ao32 t384.length co32] rfl aG ?_; (with_reducible refine (laws_eqItemS.calls kj8 _ _ t376 _ _ t384 true _ ?side1 ?side2 ?side3 ?side4 A27.out).mono ?_); (case side1 => repeat (first | exact (Kd.S_reads' HO_6.out).2.2 | (with_reducible refine Kd.C_alloc ?_ _) | (with_reducible refine Kd.C_drewN ?_ _) | (with_reducible refine Kd.C_drew ?_))); (case side2 => exact (Kd.S_reads' HO_6.out).2.1); (case side3 => repeat (first | exact (Kd.S_reads' HO386.out).2.2 | (with_reducible refine Kd.C_alloc ?_ _) | (with_reducible refine Kd.C_drewN ?_ _) | (with_reducible refine Kd.C_drew ?_))); (case side4 => exact (Kd.S_reads' HO386.out).2.1); rintro e w33 ⟨rfl, hb⟩; refine ⟨_, rfl, ?_⟩; have n0_ := Aside0.mk (Kd.R_below (aP HO_4.out) hb); have n1_ := Aside0.mk (Kd.S_below (by (with_reducible repeat (first | apply Kd.S_alloc | apply Kd.S_drewN | apply Kd.S_drew)); exact HO_6.out) hb); have n2_ := Aside0.mk (Kd.R_below (aP HO_7.out) hb); have n3_ := Aside0.mk (Kd.S_below (by (with_reducible repeat (first | apply Kd.S_alloc | apply Kd.S_drewN | apply Kd.S_drew)); exact HO386.out) hb); have n4_ := Aside0.mk (below_step aB hb); clear HO_4; clear HO_6; clear HO_7; clear HO386; clear HB; have HO_4 := n0_; have HO_6 := n1_; have HO_7 := n2_; have HO386 := n3_; have HB := n4_; clear n0_ n1_ n2_ n3_ n4_; (try clear hb); (try clear hb2); (try clear hk); (try clear hi)) | ((with_reducible refine gate_callee (f := 27) rfl ?_); refine goesL_ (some 48) rfl rfl Tryd.func27 (by kernel_rfl) rfl #[.slice Ao15 t376.length co15, .int .i64 1] rfl aG ?_; (with_reducible refine (laws_markItemS.calls (fun k_ => (((True ∧ some k_ ≠ (.slice Ao32 t384.length co32 : Value).ownBlock) ∧ some k_ ≠ (v374 : Value).ownBlock) ∧ some k_ ≠ (v381 : Value).ownBlock)) (.slice Ao15 t376.length co15) t376 1 t388 w _ ?side1 ?side2 A29.out).mono ?_); (case side1 => repeat (first | (with_reducible first | exact HB.out | apply below_alloc | apply pw_below_drewN | apply below_drew1) | exact HB.out)); (case side2 => exact (Kd.S_R (Kd.S_apart' (Kd.S_apart' HO_6.out (Kd.R_typed HO_4.out) (by decide)) (Kd.R_typed HO_7.out) (by decide)))); rintro e w34 ⟨rfl, hb, hkp⟩; refine ⟨_, rfl, ?_⟩; have n0_ := Aside0.mk (Kd.R_mono (ok' := fun k_ => some k_ ≠ (v381 : Value).ownBlock) (Kd.R_keptB (Kd.R_tight2 rfl (HO_4.out)) hkp (fun k_ hk_ hs_ => (hs_.1.2) hk_.1)) (fun k_ hk_ => hk_.1.2)); have n1_ := Aside0.mk (Kd.R_mono (ok' := fun k_ => some k_ ≠ (v374 : Value).ownBlock) (Kd.R_keptB (Kd.R_tight2 rfl (HO_7.out)) hkp (fun k_ hk_ hs_ => (hs_.2) hk_.1)) (fun k_ hk_ => hk_.1.2)); have n2_ := Aside0.mk (hb); clear HO_4; clear HO_7; clear HB; clear HO_6; clear HO386; have HO_4 := n0_; have HO_7 := n1_; have HB := n2_; clear n0_ n1_ n2_; (try clear hb); (try clear hkp)))
   (try simp only [Act.put, List.setIfInBounds_toArray, List.set_cons_zero, List.set_cons_succ])
   go_cut [61] (fun v61 wc => ∃ (kq : Nat) (x61_29 : Bool), v61 = .bool x61_29 ∧ Aside0 (laws_FnExactNamesOf.j1 kq l0 t372 t373 t379 x61_29 = some r) ∧ Aside0 (kq ≤ kj8) ∧ Aside0 (Kd.R k92 92 wc w.heap.size (fun k_ => some k_ ≠ (v381 : Value).ownBlock) v374 t372) ∧ Aside0 (Kd.R k92 92 wc w.heap.size (fun k_ => some k_ ≠ (v374 : Value).ownBlock) v381 t379) ∧ Aside0 (Below w.heap.size w wc))
   case first =>
    have H := HC30.out
    clear HC30
    by_cases c35 : t388 < 0
    ·rw [if_pos c35] at H
     have c35b0 : decide (t388 < 0) = true := decide_eq_true c35
     clear c35
     (first | rw [c35b0] | (simp only [i64_w, i32_w]; rw [c35b0]) | skip)
     have H' := Aside0.mk H
     clear H
     go_wp2
     go_meet
     case rel => exact ⟨_, (true), aR, H', ⟨by have := HJ8.out; first | omega | exact Nat.le_refl _⟩, ⟨aP HO_4.out⟩, ⟨aP HO_7.out⟩, ⟨aB⟩⟩
    rw [if_neg c35] at H
    have c35b0 : decide (t388 < 0) = false := decide_eq_false c35
    clear c35
    (first | rw [c35b0] | (simp only [i64_w, i32_w]; rw [c35b0]) | skip)
    replace H := Option.bind_eq_some_iff.mp H
    obtain ⟨t389, A360, H⟩ := H
    replace H : (if t389 = true then (laws_FnExactNamesOf.j1 kj8 l0 t372 t373 t379 (t380 != t373)) else (laws_FnExactNamesOf.j1 kj8 l0 t372 t373 t379 true)) = some r := H
    have A36 := Aside0.mk A360
    clear A360
    by_cases c37 : t389 = true
    ·subst c37
     have H1 : (laws_FnExactNamesOf.j1 kj8 l0 t372 t373 t379 (t380 != t373)) = some r := by rw [if_pos rfl] at H; exact H
     clear H
     have H := H1
     clear H1
     have H' := Aside0.mk H
     clear H
     obtain ⟨Ao38, co38, eo38⟩ := Kd.R_slice HO_7.out
     subst eo38
     obtain ⟨Ao39, co39, eo39⟩ := Kd.R_slice HO_4.out
     subst eo39
     go_wp2_with (first | (go_at_call 32; (with_reducible refine (laws_eqQNameS.calls kj8 _ _ t379 _ _ t372 true _ ?side1 ?side2 ?side3 ?side4 A36.out).mono ?_); (case side1 => repeat (first | exact (Kd.R_reads' HO_7.out).2.2 | (with_reducible refine Kd.C_alloc ?_ _) | (with_reducible refine Kd.C_drewN ?_ _) | (with_reducible refine Kd.C_drew ?_))); (case side2 => exact (Kd.R_reads' HO_7.out).2.1); (case side3 => repeat (first | exact (Kd.R_reads' HO_4.out).2.2 | (with_reducible refine Kd.C_alloc ?_ _) | (with_reducible refine Kd.C_drewN ?_ _) | (with_reducible refine Kd.C_drew ?_))); (case side4 => exact (Kd.R_reads' HO_4.out).2.1); rintro e w40 ⟨rfl, hb⟩; have n0_ := Aside0.mk (Kd.R_below (aP HO_4.out) hb); have n1_ := Aside0.mk (Kd.R_below (aP HO_7.out) hb); have n2_ := Aside0.mk (below_step aB hb); clear HO_4; clear HO_7; clear HB; have HO_4 := n0_; have HO_7 := n1_; have HB := n2_; clear n0_ n1_ n2_; (try clear hb); (try clear hb2); (try clear hk); (try clear hi)))
     go_meet
     case rel => exact ⟨_, ((t380 != t373)), aR, H', ⟨by have := HJ8.out; first | omega | exact Nat.le_refl _⟩, ⟨aP HO_4.out⟩, ⟨aP HO_7.out⟩, ⟨aB⟩⟩
    replace c37 := Bool.eq_false_iff.mpr c37
    subst c37
    have H1 : (laws_FnExactNamesOf.j1 kj8 l0 t372 t373 t379 true) = some r := by rw [if_neg (show ¬ (false = true) by decide)] at H; exact H
    clear H
    have H := H1
    clear H1
    have H' := Aside0.mk H
    clear H
    obtain ⟨Ao41, co41, eo41⟩ := Kd.R_slice HO_7.out
    subst eo41
    obtain ⟨Ao42, co42, eo42⟩ := Kd.R_slice HO_4.out
    subst eo42
    go_wp2_with (first | (go_at_call 32; (with_reducible refine (laws_eqQNameS.calls kj8 _ _ t379 _ _ t372 false _ ?side1 ?side2 ?side3 ?side4 A36.out).mono ?_); (case side1 => repeat (first | exact (Kd.R_reads' HO_7.out).2.2 | (with_reducible refine Kd.C_alloc ?_ _) | (with_reducible refine Kd.C_drewN ?_ _) | (with_reducible refine Kd.C_drew ?_))); (case side2 => exact (Kd.R_reads' HO_7.out).2.1); (case side3 => repeat (first | exact (Kd.R_reads' HO_4.out).2.2 | (with_reducible refine Kd.C_alloc ?_ _) | (with_reducible refine Kd.C_drewN ?_ _) | (with_reducible refine Kd.C_drew ?_))); (case side4 => exact (Kd.R_reads' HO_4.out).2.1); rintro e w43 ⟨rfl, hb⟩; have n0_ := Aside0.mk (Kd.R_below (aP HO_4.out) hb); have n1_ := Aside0.mk (Kd.R_below (aP HO_7.out) hb); have n2_ := Aside0.mk (below_step aB hb); clear HO_4; clear HO_7; clear HB; have HO_4 := n0_; have HO_7 := n1_; have HB := n2_; clear n0_ n1_ n2_; (try clear hb); (try clear hb2); (try clear hk); (try clear hi)))
    go_meet
    case rel => exact ⟨_, (true), aR, H', ⟨by have := HJ8.out; first | omega | exact Nat.le_refl _⟩, ⟨aP HO_4.out⟩, ⟨aP HO_7.out⟩, ⟨aB⟩⟩
   case rest =>
    clear HC30
    try clear c1
    try clear c2
    try clear p2
    try clear c3
    try clear c3b0
    try clear c10
    try clear c15
    try clear c17
    try clear c18
    try clear c19
    try clear c25
    try clear c27
    try clear c28
    try clear c32
    try clear c35
    try clear c35b0
    try clear c36
    try clear c37
    try clear p2
    obtain ⟨kq, x61_29, rfl, HA, HJ29, HO_4, HO_7, HB⟩ := hcut
    cases kq with
    | zero => exact absurd HA.out (by simp [laws_FnExactNamesOf.j1])
    | succ kj29 =>
     have H := HA.out
     clear HA
     simp only [laws_FnExactNamesOf.j1] at H
     by_cases c44 : x61_29 = true
     ·subst c44
      have H1 : (some false) = some r := by rw [if_pos rfl] at H; exact H
      clear H
      have H := H1
      clear H1
      obtain rfl := Option.some.inj H
      go_wp2
      go_ret
      exact ⟨aS, aB⟩
     replace c44 := Bool.eq_false_iff.mpr c44
     subst c44
     have H1 : ((laws_markQNameS.f kj29 t379 1).bind fun bt390 => ((laws_heldQNameS.f kj29 bt390.2 1).bind fun t392 => (if t392 < 0 then (some false) else (if t392 = bt390.1 then ((laws_toItemS.f kj29 l0).bind fun t393 => ((impl_NamesOf.f kj29 t393).bind fun bt396 => ((laws_eqQNameS.f kj29 bt396.1 t372).bind fun t400 => (if t400 = true then (laws_FnExactNamesOf.j2 kj29 bt390.2 bt390.1 (bt396.2 != t373)) else (laws_FnExactNamesOf.j2 kj29 bt390.2 bt390.1 true))))) else (some false))))) = some r := by rw [if_neg (show ¬ (false = true) by decide)] at H; exact H
     clear H
     have H := H1
     clear H1
     replace H := Option.bind_eq_some_iff.mp H
     obtain ⟨⟨t390, t391⟩, A450, H⟩ := H
     replace H : ((laws_heldQNameS.f kj29 t391 1).bind fun t392 => (if t392 < 0 then (some false) else (if t392 = t390 then ((laws_toItemS.f kj29 l0).bind fun t393 => ((impl_NamesOf.f kj29 t393).bind fun bt396 => ((laws_eqQNameS.f kj29 bt396.1 t372).bind fun t400 => (if t400 = true then (laws_FnExactNamesOf.j2 kj29 t391 t390 (bt396.2 != t373)) else (laws_FnExactNamesOf.j2 kj29 t391 t390 true))))) else (some false)))) = some r := H
     have A45 := Aside0.mk A450
     clear A450
     replace H := Option.bind_eq_some_iff.mp H
     obtain ⟨t392, A460, H⟩ := H
     replace H : (if t392 < 0 then (some false) else (if t392 = t390 then ((laws_toItemS.f kj29 l0).bind fun t393 => ((impl_NamesOf.f kj29 t393).bind fun bt396 => ((laws_eqQNameS.f kj29 bt396.1 t372).bind fun t400 => (if t400 = true then (laws_FnExactNamesOf.j2 kj29 t391 t390 (bt396.2 != t373)) else (laws_FnExactNamesOf.j2 kj29 t391 t390 true))))) else (some false))) = some r := H
     have A46 := Aside0.mk A460
     clear A460
     by_cases c47 : t392 < 0
     ·rw [if_pos c47] at H
      have c47b0 : decide (t392 < 0) = true := decide_eq_true c47
      clear c47
      obtain rfl := Option.some.inj H
      obtain ⟨Ao48, co48, eo48⟩ := Kd.R_slice HO_7.out
      subst eo48
      go_wp2_with (first | ((with_reducible refine gate_callee (f := 33) rfl ?_); refine goesL_ (some 64) rfl rfl Tryd.func33 (by kernel_rfl) rfl #[.slice Ao48 t379.length co48, .int .i64 1] rfl aG ?_; (with_reducible refine (laws_markQNameS.calls kj29 (fun k_ => some k_ = (.slice Ao48 t379.length co48 : Value).ownBlock) (.slice Ao48 t379.length co48) t379 1 t390 t391 w _ ?side1 ?side2 A45.out).mono ?_); (case side1 => repeat (first | (with_reducible first | exact HB.out | apply below_alloc | apply pw_below_drewN | apply below_drew1) | exact HB.out)); (case side2 => exact Kd.R_tight rfl HO_7.out); rintro e w49 ⟨rfl, hy0, hb, hkp⟩; refine ⟨_, rfl, ?_⟩; have n0_ := Aside0.mk (Kd.R_mono (ok' := fun k_ => some k_ ≠ (.slice Ao48 t379.length co48 : Value).ownBlock) (Kd.R_keptB (HO_4.out) hkp (fun k_ hk_ hs_ => (hk_) hs_)) (fun k_ hk_ => hk_.1)); have n1_ := Aside0.mk (Kd.R_reok rfl hy0 (fun k_ e_ => HO_7.out.1 k_ e_)); have n2_ := Aside0.mk (hb); clear HO_4; clear HO_7; clear HB; have HO_4 := n0_; have HO_7 := n1_; have HB := n2_; clear n0_ n1_ n2_; (try clear hb); (try clear hkp); (try clear hy0)) | ((with_reducible refine gate_callee (f := 34) rfl ?_); refine goesL_ (some 67) rfl rfl Tryd.func34 (by kernel_rfl) rfl #[.slice Ao48 t391.length co48, .int .i64 1] rfl (by (try simp only [List.map_toArray, List.map_cons, List.map_nil]); first | done | (rw [show t391.length = t379.length from (Kd.R_reads' HO_7.out).1.symm] <;> rfl) | rfl | (simp only [List.length_drop, List.length_take]; rfl)) ?_; (with_reducible refine (laws_heldQNameS.calls kj29 _ _ t391 1 t392 _ ?side1 ?side2 A46.out).mono ?_); (case side1 => repeat (first | exact (Kd.R_reads' HO_7.out).2.2 | (with_reducible refine Kd.C_alloc ?_ _) | (with_reducible refine Kd.C_drewN ?_ _) | (with_reducible refine Kd.C_drew ?_))); (case side2 => rw [show t391.length = t379.length from (Kd.R_reads' HO_7.out).1.symm]; exact (Kd.R_reads' HO_7.out).2.1); rintro e w50 ⟨rfl, hb⟩; refine ⟨_, rfl, ?_⟩; have n0_ := Aside0.mk (Kd.R_below (aP HO_4.out) hb); have n1_ := Aside0.mk (Kd.R_below (aP HO_7.out) hb); have n2_ := Aside0.mk (below_step aB hb); clear HO_4; clear HO_7; clear HB; have HO_4 := n0_; have HO_7 := n1_; have HB := n2_; clear n0_ n1_ n2_; (try clear hb); (try clear hb2); (try clear hk); (try clear hi)))
      go_ret
      exact ⟨aS, aB⟩
     rw [if_neg c47] at H
     have c47b0 : decide (t392 < 0) = false := decide_eq_false c47
     clear c47
     by_cases c51 : t392 = t390
     rotate_left
     ·rw [if_neg c51] at H
      have c51b0 : (t392 == t390) = false := beq_eq_false_iff_ne.mpr c51
      have c51b1 : (t392 != t390) = true := bne_iff_ne.mpr c51
      obtain rfl := Option.some.inj H
      obtain ⟨Ao76, co76, eo76⟩ := Kd.R_slice HO_7.out
      subst eo76
      go_wp2_with (first | ((with_reducible refine gate_callee (f := 33) rfl ?_); refine goesL_ (some 64) rfl rfl Tryd.func33 (by kernel_rfl) rfl #[.slice Ao76 t379.length co76, .int .i64 1] rfl aG ?_; (with_reducible refine (laws_markQNameS.calls kj29 (fun k_ => some k_ = (.slice Ao76 t379.length co76 : Value).ownBlock) (.slice Ao76 t379.length co76) t379 1 t390 t391 w _ ?side1 ?side2 A45.out).mono ?_); (case side1 => repeat (first | (with_reducible first | exact HB.out | apply below_alloc | apply pw_below_drewN | apply below_drew1) | exact HB.out)); (case side2 => exact Kd.R_tight rfl HO_7.out); rintro e w77 ⟨rfl, hy0, hb, hkp⟩; refine ⟨_, rfl, ?_⟩; have n0_ := Aside0.mk (Kd.R_mono (ok' := fun k_ => some k_ ≠ (.slice Ao76 t379.length co76 : Value).ownBlock) (Kd.R_keptB (HO_4.out) hkp (fun k_ hk_ hs_ => (hk_) hs_)) (fun k_ hk_ => hk_.1)); have n1_ := Aside0.mk (Kd.R_reok rfl hy0 (fun k_ e_ => HO_7.out.1 k_ e_)); have n2_ := Aside0.mk (hb); clear HO_4; clear HO_7; clear HB; have HO_4 := n0_; have HO_7 := n1_; have HB := n2_; clear n0_ n1_ n2_; (try clear hb); (try clear hkp); (try clear hy0)) | ((with_reducible refine gate_callee (f := 34) rfl ?_); refine goesL_ (some 67) rfl rfl Tryd.func34 (by kernel_rfl) rfl #[.slice Ao76 t391.length co76, .int .i64 1] rfl (by (try simp only [List.map_toArray, List.map_cons, List.map_nil]); first | done | (rw [show t391.length = t379.length from (Kd.R_reads' HO_7.out).1.symm] <;> rfl) | rfl | (simp only [List.length_drop, List.length_take]; rfl)) ?_; (with_reducible refine (laws_heldQNameS.calls kj29 _ _ t391 1 t392 _ ?side1 ?side2 A46.out).mono ?_); (case side1 => repeat (first | exact (Kd.R_reads' HO_7.out).2.2 | (with_reducible refine Kd.C_alloc ?_ _) | (with_reducible refine Kd.C_drewN ?_ _) | (with_reducible refine Kd.C_drew ?_))); (case side2 => rw [show t391.length = t379.length from (Kd.R_reads' HO_7.out).1.symm]; exact (Kd.R_reads' HO_7.out).2.1); rintro e w78 ⟨rfl, hb⟩; refine ⟨_, rfl, ?_⟩; have n0_ := Aside0.mk (Kd.R_below (aP HO_4.out) hb); have n1_ := Aside0.mk (Kd.R_below (aP HO_7.out) hb); have n2_ := Aside0.mk (below_step aB hb); clear HO_4; clear HO_7; clear HB; have HO_4 := n0_; have HO_7 := n1_; have HB := n2_; clear n0_ n1_ n2_; (try clear hb); (try clear hb2); (try clear hk); (try clear hi)))
      go_ret
      exact ⟨aS, aB⟩
     rw [if_pos c51] at H
     have c51b0 : (t392 == t390) = true := beq_iff_eq.mpr c51
     have c51b1 : (t392 != t390) = false := bne_eq_false_iff_eq.mpr c51
     clear c51
     replace H := Option.bind_eq_some_iff.mp H
     obtain ⟨t393, A520, H⟩ := H
     replace H : ((impl_NamesOf.f kj29 t393).bind fun bt396 => ((laws_eqQNameS.f kj29 bt396.1 t372).bind fun t400 => (if t400 = true then (laws_FnExactNamesOf.j2 kj29 t391 t390 (bt396.2 != t373)) else (laws_FnExactNamesOf.j2 kj29 t391 t390 true)))) = some r := H
     have A52 := Aside0.mk A520
     clear A520
     replace H := Option.bind_eq_some_iff.mp H
     obtain ⟨⟨t396, t397⟩, A530, H⟩ := H
     replace H : ((laws_eqQNameS.f kj29 t396 t372).bind fun t400 => (if t400 = true then (laws_FnExactNamesOf.j2 kj29 t391 t390 (t397 != t373)) else (laws_FnExactNamesOf.j2 kj29 t391 t390 true))) = some r := H
     have A53 := Aside0.mk A530
     clear A530
     have HC54 := Aside0.mk H
     clear H
     obtain ⟨Ao55, co55, eo55⟩ := Kd.R_slice HO_7.out
     subst eo55
     go_upto_region 25 with (first | ((with_reducible refine gate_callee (f := 33) rfl ?_); refine goesL_ (some 64) rfl rfl Tryd.func33 (by kernel_rfl) rfl #[.slice Ao55 t379.length co55, .int .i64 1] rfl aG ?_; (with_reducible refine (laws_markQNameS.calls kj29 (fun k_ => some k_ = (.slice Ao55 t379.length co55 : Value).ownBlock) (.slice Ao55 t379.length co55) t379 1 t390 t391 w _ ?side1 ?side2 A45.out).mono ?_); (case side1 => repeat (first | (with_reducible first | exact HB.out | apply below_alloc | apply pw_below_drewN | apply below_drew1) | exact HB.out)); (case side2 => exact Kd.R_tight rfl HO_7.out); rintro e w56 ⟨rfl, hy0, hb, hkp⟩; refine ⟨_, rfl, ?_⟩; have n0_ := Aside0.mk (Kd.R_mono (ok' := fun k_ => some k_ ≠ (.slice Ao55 t379.length co55 : Value).ownBlock) (Kd.R_keptB (HO_4.out) hkp (fun k_ hk_ hs_ => (hk_) hs_)) (fun k_ hk_ => hk_.1)); have n1_ := Aside0.mk (Kd.R_reok rfl hy0 (fun k_ e_ => HO_7.out.1 k_ e_)); have n2_ := Aside0.mk (hb); clear HO_4; clear HO_7; clear HB; have HO_4 := n0_; have HO_7 := n1_; have HB := n2_; clear n0_ n1_ n2_; (try clear hb); (try clear hkp); (try clear hy0)) | ((with_reducible refine gate_callee (f := 34) rfl ?_); refine goesL_ (some 67) rfl rfl Tryd.func34 (by kernel_rfl) rfl #[.slice Ao55 t391.length co55, .int .i64 1] rfl (by (try simp only [List.map_toArray, List.map_cons, List.map_nil]); first | done | (rw [show t391.length = t379.length from (Kd.R_reads' HO_7.out).1.symm] <;> rfl) | rfl | (simp only [List.length_drop, List.length_take]; rfl)) ?_; (with_reducible refine (laws_heldQNameS.calls kj29 _ _ t391 1 t392 _ ?side1 ?side2 A46.out).mono ?_); (case side1 => repeat (first | exact (Kd.R_reads' HO_7.out).2.2 | (with_reducible refine Kd.C_alloc ?_ _) | (with_reducible refine Kd.C_drewN ?_ _) | (with_reducible refine Kd.C_drew ?_))); (case side2 => rw [show t391.length = t379.length from (Kd.R_reads' HO_7.out).1.symm]; exact (Kd.R_reads' HO_7.out).2.1); rintro e w57 ⟨rfl, hb⟩; refine ⟨_, rfl, ?_⟩; have n0_ := Aside0.mk (Kd.R_below (aP HO_4.out) hb); have n1_ := Aside0.mk (Kd.R_below (aP HO_7.out) hb); have n2_ := Aside0.mk (below_step aB hb); clear HO_4; clear HO_7; clear HB; have HO_4 := n0_; have HO_7 := n1_; have HB := n2_; clear n0_ n1_ n2_; (try clear hb); (try clear hb2); (try clear hk); (try clear hi)) | ((with_reducible refine gate_callee (f := 17) rfl ?_); refine goesL_ (some 75) rfl rfl Tryd.func17 (by kernel_rfl) rfl #[.slice A0 l0.length c0] rfl aG ?_; (with_reducible refine (laws_toItemS.calls kj29 _ _ l0 t393 _ ?side1 ?side2 A52.out).mono ?_); (case side1 => repeat (first | exact (Kd.C_below HR0.out HB.out) | (with_reducible refine Kd.C_alloc ?_ _) | (with_reducible refine Kd.C_drewN ?_ _) | (with_reducible refine Kd.C_drew ?_))); (case side2 => exact HC0.out); rintro e w58 ⟨v394, rfl, ho0, hb⟩; refine ⟨_, rfl, ?_⟩; have n0_ := Aside0.mk (Kd.R_below (aP HO_4.out) hb); have n1_ := Aside0.mk (Kd.R_below (aP HO_7.out) hb); have n2_ := Aside0.mk (Kd.S_lower ho0 (below_size aB)); have n3_ := Aside0.mk (below_step aB hb); clear HO_4; clear HO_7; clear HB; have HO_4 := n0_; have HO_7 := n1_; have HO395 := n2_; have HB := n3_; clear n0_ n1_ n2_ n3_; (try clear hb); (try clear hb2); (try clear hk); (try clear hi); (try clear ho0); obtain ⟨Ao59, co59, eo59⟩ := Kd.S_slice HO395.out; subst eo59) | ((with_reducible refine gate_callee (f := 36) rfl ?_); refine goesL_ (some 76) rfl rfl Tryd.func36 (by kernel_rfl) rfl #[.slice Ao59 t393.length co59] rfl aG ?_; (with_reducible refine (impl_NamesOf.calls kj29 _ _ t393 t396 t397 _ ?side1 ?side2 ?side3 A53.out).mono ?_); (case side1 => exact GL.below HGL.out aB); (case side2 => repeat (first | exact (Kd.S_reads' HO395.out).2.2 | (with_reducible refine Kd.C_alloc ?_ _) | (with_reducible refine Kd.C_drewN ?_ _) | (with_reducible refine Kd.C_drew ?_))); (case side3 => exact (Kd.S_reads' HO395.out).2.1); rintro e w60 ⟨v398, rfl, ho0, hb⟩; refine ⟨_, rfl, ?_⟩; have n0_ := Aside0.mk (Kd.R_elder' (aP HO_4.out) (Kd.R_base ho0) hb); have n1_ := Aside0.mk (Kd.R_elder' (aP HO_7.out) (Kd.R_base ho0) hb); have n2_ := Aside0.mk (Kd.S_below (by (with_reducible repeat (first | apply Kd.S_alloc | apply Kd.S_drewN | apply Kd.S_drew)); exact HO395.out) hb); have n3_ := Aside0.mk (Kd.R_lower (Kd.R_new' (Kd.R_new' ho0 (Kd.R_lt (aP HO_4.out))) (Kd.R_lt (aP HO_7.out))) (below_size aB)); have n4_ := Aside0.mk (below_step aB hb); clear HO_4; clear HO_7; clear HO395; clear HB; have HO_4 := n0_; have HO_7 := n1_; have HO395 := n2_; have HO399 := n3_; have HB := n4_; clear n0_ n1_ n2_ n3_ n4_; (try clear hb); (try clear hb2); (try clear hk); (try clear hi); (try clear ho0)))
     (try simp only [Act.put, List.setIfInBounds_toArray, List.set_cons_zero, List.set_cons_succ])
     go_cut [87] (fun v87 wc => ∃ (kq : Nat) (x87_53 : Bool), v87 = .bool x87_53 ∧ Aside0 (laws_FnExactNamesOf.j2 kq t391 t390 x87_53 = some r) ∧ Aside0 (kq ≤ kj29) ∧ Aside0 (Kd.R k92 92 wc w.heap.size (fun _ => True) (.slice Ao55 t379.length co55) t391) ∧ Aside0 (Below w.heap.size w wc))
     case first =>
      have H := HC54.out
      clear HC54
      replace H := Option.bind_eq_some_iff.mp H
      obtain ⟨t400, A610, H⟩ := H
      replace H : (if t400 = true then (laws_FnExactNamesOf.j2 kj29 t391 t390 (t397 != t373)) else (laws_FnExactNamesOf.j2 kj29 t391 t390 true)) = some r := H
      have A61 := Aside0.mk A610
      clear A610
      by_cases c62 : t400 = true
      ·subst c62
       have H1 : (laws_FnExactNamesOf.j2 kj29 t391 t390 (t397 != t373)) = some r := by rw [if_pos rfl] at H; exact H
       clear H
       have H := H1
       clear H1
       have H' := Aside0.mk H
       clear H
       obtain ⟨Ao63, co63, eo63⟩ := Kd.R_slice HO399.out
       subst eo63
       obtain ⟨Ao64, co64, eo64⟩ := Kd.R_slice HO_4.out
       subst eo64
       go_wp2_with (first | ((with_reducible refine gate_callee (f := 32) rfl ?_); refine goesL_ (some 81) rfl rfl Tryd.func32 (by kernel_rfl) rfl #[.slice Ao63 t396.length co63, .slice Ao64 t372.length co64] rfl aG ?_; (with_reducible refine (laws_eqQNameS.calls kj29 _ _ t396 _ _ t372 true _ ?side1 ?side2 ?side3 ?side4 A61.out).mono ?_); (case side1 => repeat (first | exact (Kd.R_reads' HO399.out).2.2 | (with_reducible refine Kd.C_alloc ?_ _) | (with_reducible refine Kd.C_drewN ?_ _) | (with_reducible refine Kd.C_drew ?_))); (case side2 => exact (Kd.R_reads' HO399.out).2.1); (case side3 => repeat (first | exact (Kd.R_reads' HO_4.out).2.2 | (with_reducible refine Kd.C_alloc ?_ _) | (with_reducible refine Kd.C_drewN ?_ _) | (with_reducible refine Kd.C_drew ?_))); (case side4 => exact (Kd.R_reads' HO_4.out).2.1); rintro e w65 ⟨rfl, hb⟩; refine ⟨_, rfl, ?_⟩; have n0_ := Aside0.mk (Kd.R_below (aP HO_4.out) hb); have n1_ := Aside0.mk (Kd.R_below (aP HO_7.out) hb); have n2_ := Aside0.mk (Kd.S_below (by (with_reducible repeat (first | apply Kd.S_alloc | apply Kd.S_drewN | apply Kd.S_drew)); exact HO395.out) hb); have n3_ := Aside0.mk (Kd.R_below (aP HO399.out) hb); have n4_ := Aside0.mk (below_step aB hb); clear HO_4; clear HO_7; clear HO395; clear HO399; clear HB; have HO_4 := n0_; have HO_7 := n1_; have HO395 := n2_; have HO399 := n3_; have HB := n4_; clear n0_ n1_ n2_ n3_ n4_; (try clear hb); (try clear hb2); (try clear hk); (try clear hi)))
       go_meet
       case rel => exact ⟨_, ((t397 != t373)), aR, H', ⟨by have := HJ8.out; have := HJ29.out; first | omega | exact Nat.le_refl _⟩, ⟨by (with_reducible repeat (first | apply Kd.R_alloc | apply Kd.R_drewN | apply Kd.R_drew)); exact Kd.R_mono HO_7.out (fun _ hk => trivial)⟩, ⟨aB⟩⟩
      replace c62 := Bool.eq_false_iff.mpr c62
      subst c62
      have H1 : (laws_FnExactNamesOf.j2 kj29 t391 t390 true) = some r := by rw [if_neg (show ¬ (false = true) by decide)] at H; exact H
      clear H
      have H := H1
      clear H1
      have H' := Aside0.mk H
      clear H
      obtain ⟨Ao66, co66, eo66⟩ := Kd.R_slice HO399.out
      subst eo66
      obtain ⟨Ao67, co67, eo67⟩ := Kd.R_slice HO_4.out
      subst eo67
      go_wp2_with (first | ((with_reducible refine gate_callee (f := 32) rfl ?_); refine goesL_ (some 81) rfl rfl Tryd.func32 (by kernel_rfl) rfl #[.slice Ao66 t396.length co66, .slice Ao67 t372.length co67] rfl aG ?_; (with_reducible refine (laws_eqQNameS.calls kj29 _ _ t396 _ _ t372 false _ ?side1 ?side2 ?side3 ?side4 A61.out).mono ?_); (case side1 => repeat (first | exact (Kd.R_reads' HO399.out).2.2 | (with_reducible refine Kd.C_alloc ?_ _) | (with_reducible refine Kd.C_drewN ?_ _) | (with_reducible refine Kd.C_drew ?_))); (case side2 => exact (Kd.R_reads' HO399.out).2.1); (case side3 => repeat (first | exact (Kd.R_reads' HO_4.out).2.2 | (with_reducible refine Kd.C_alloc ?_ _) | (with_reducible refine Kd.C_drewN ?_ _) | (with_reducible refine Kd.C_drew ?_))); (case side4 => exact (Kd.R_reads' HO_4.out).2.1); rintro e w68 ⟨rfl, hb⟩; refine ⟨_, rfl, ?_⟩; have n0_ := Aside0.mk (Kd.R_below (aP HO_4.out) hb); have n1_ := Aside0.mk (Kd.R_below (aP HO_7.out) hb); have n2_ := Aside0.mk (Kd.S_below (by (with_reducible repeat (first | apply Kd.S_alloc | apply Kd.S_drewN | apply Kd.S_drew)); exact HO395.out) hb); have n3_ := Aside0.mk (Kd.R_below (aP HO399.out) hb); have n4_ := Aside0.mk (below_step aB hb); clear HO_4; clear HO_7; clear HO395; clear HO399; clear HB; have HO_4 := n0_; have HO_7 := n1_; have HO395 := n2_; have HO399 := n3_; have HB := n4_; clear n0_ n1_ n2_ n3_ n4_; (try clear hb); (try clear hb2); (try clear hk); (try clear hi)))
      go_meet
      case rel => exact ⟨_, (true), aR, H', ⟨by have := HJ8.out; have := HJ29.out; first | omega | exact Nat.le_refl _⟩, ⟨by (with_reducible repeat (first | apply Kd.R_alloc | apply Kd.R_drewN | apply Kd.R_drew)); exact Kd.R_mono HO_7.out (fun _ hk => trivial)⟩, ⟨aB⟩⟩
     case rest =>
      clear HC54
      try clear c1
      try clear c2
      try clear p2
      try clear c3
      try clear c3b0
      try clear c4
      try clear c5
      try clear c6
      try clear c10
      try clear c15
      try clear c17
      try clear c18
      try clear c19
      try clear c25
      try clear c27
      try clear c28
      try clear c32
      try clear c33
      try clear c34
      try clear c35
      try clear c35b0
      try clear c36
      try clear c37
      try clear c44
      try clear c47
      try clear c47b0
      try clear c51
      try clear c51b0
      try clear c51b1
      try clear c62
      try clear p2
      obtain ⟨kq, x87_53, rfl, HA, HJ53, HO_7, HB⟩ := hcut
      have hl7_53 := (Kd.R_reads' HO_7.out).1
      rw [hl7_53] at HO_7
      (try simp only [hl7_53])
      cases kq with
      | zero => exact absurd HA.out (by simp [laws_FnExactNamesOf.j2])
      | succ kj53 =>
       have H := HA.out
       clear HA
       simp only [laws_FnExactNamesOf.j2] at H
       by_cases c69 : x87_53 = true
       ·subst c69
        have H1 : (some false) = some r := by rw [if_pos rfl] at H; exact H
        clear H
        have H := H1
        clear H1
        obtain rfl := Option.some.inj H
        go_wp2
        go_ret
        exact ⟨aS, aB⟩
       replace c69 := Bool.eq_false_iff.mpr c69
       subst c69
       have H1 : ((laws_heldQNameS.f kj53 t391 1).bind fun t401 => (if t401 < 0 then (some false) else (if t401 = t390 then (some true) else (some false)))) = some r := by rw [if_neg (show ¬ (false = true) by decide)] at H; exact H
       clear H
       have H := H1
       clear H1
       replace H := Option.bind_eq_some_iff.mp H
       obtain ⟨t401, A700, H⟩ := H
       replace H : (if t401 < 0 then (some false) else (if t401 = t390 then (some true) else (some false))) = some r := H
       have A70 := Aside0.mk A700
       clear A700
       by_cases c71 : t401 < 0
       ·rw [if_pos c71] at H
        have c71b0 : decide (t401 < 0) = true := decide_eq_true c71
        clear c71
        obtain rfl := Option.some.inj H
        go_wp2_with (first | ((with_reducible refine gate_callee (f := 34) rfl ?_); refine goesL_ (some 90) rfl rfl Tryd.func34 (by kernel_rfl) rfl #[.slice Ao55 t391.length co55, .int .i64 1] rfl aG ?_; (with_reducible refine (laws_heldQNameS.calls kj53 _ _ t391 1 t401 _ ?side1 ?side2 A70.out).mono ?_); (case side1 => repeat (first | exact (Kd.R_reads' HO_7.out).2.2 | (with_reducible refine Kd.C_alloc ?_ _) | (with_reducible refine Kd.C_drewN ?_ _) | (with_reducible refine Kd.C_drew ?_))); (case side2 => exact (Kd.R_reads' HO_7.out).2.1); rintro e w72 ⟨rfl, hb⟩; refine ⟨_, rfl, ?_⟩; have n0_ := Aside0.mk (Kd.R_below (aP HO_7.out) hb); have n1_ := Aside0.mk (below_step aB hb); clear HO_7; clear HB; have HO_7 := n0_; have HB := n1_; clear n0_ n1_; (try clear hb); (try clear hb2); (try clear hk); (try clear hi)))
        go_ret
        exact ⟨aS, aB⟩
       rw [if_neg c71] at H
       have c71b0 : decide (t401 < 0) = false := decide_eq_false c71
       clear c71
       by_cases c73 : t401 = t390
       rotate_left
       ·rw [if_neg c73] at H
        have c73b0 : (t401 == t390) = false := beq_eq_false_iff_ne.mpr c73
        have c73b1 : (t401 != t390) = true := bne_iff_ne.mpr c73
        obtain rfl := Option.some.inj H
        go_wp2_with (first | ((with_reducible refine gate_callee (f := 34) rfl ?_); refine goesL_ (some 90) rfl rfl Tryd.func34 (by kernel_rfl) rfl #[.slice Ao55 t391.length co55, .int .i64 1] rfl aG ?_; (with_reducible refine (laws_heldQNameS.calls kj53 _ _ t391 1 t401 _ ?side1 ?side2 A70.out).mono ?_); (case side1 => repeat (first | exact (Kd.R_reads' HO_7.out).2.2 | (with_reducible refine Kd.C_alloc ?_ _) | (with_reducible refine Kd.C_drewN ?_ _) | (with_reducible refine Kd.C_drew ?_))); (case side2 => exact (Kd.R_reads' HO_7.out).2.1); rintro e w75 ⟨rfl, hb⟩; refine ⟨_, rfl, ?_⟩; have n0_ := Aside0.mk (Kd.R_below (aP HO_7.out) hb); have n1_ := Aside0.mk (below_step aB hb); clear HO_7; clear HB; have HO_7 := n0_; have HB := n1_; clear n0_ n1_; (try clear hb); (try clear hb2); (try clear hk); (try clear hi)))
        go_ret
        exact ⟨aS, aB⟩
       rw [if_pos c73] at H
       have c73b0 : (t401 == t390) = true := beq_iff_eq.mpr c73
       have c73b1 : (t401 != t390) = false := bne_eq_false_iff_eq.mpr c73
       clear c73
       obtain rfl := Option.some.inj H
       go_wp2_with (first | ((with_reducible refine gate_callee (f := 34) rfl ?_); refine goesL_ (some 90) rfl rfl Tryd.func34 (by kernel_rfl) rfl #[.slice Ao55 t391.length co55, .int .i64 1] rfl aG ?_; (with_reducible refine (laws_heldQNameS.calls kj53 _ _ t391 1 t401 _ ?side1 ?side2 A70.out).mono ?_); (case side1 => repeat (first | exact (Kd.R_reads' HO_7.out).2.2 | (with_reducible refine Kd.C_alloc ?_ _) | (with_reducible refine Kd.C_drewN ?_ _) | (with_reducible refine Kd.C_drew ?_))); (case side2 => exact (Kd.R_reads' HO_7.out).2.1); rintro e w74 ⟨rfl, hb⟩; refine ⟨_, rfl, ?_⟩; have n0_ := Aside0.mk (Kd.R_below (aP HO_7.out) hb); have n1_ := Aside0.mk (below_step aB hb); clear HO_7; clear HB; have HO_7 := n0_; have HB := n1_; clear n0_ n1_; (try clear hb); (try clear hb2); (try clear hk); (try clear hi)))
       go_ret
       exact ⟨aS, aB⟩
def WF141 (x : S141) : Prop := x.f0.size ≤ 140737488351232 ∧ x.f1.size ≤ 140737488351232
def WF71 (x : S71) : Prop := (Lit.int .i64 x.f0).wf = true ∧ x.f1.size ≤ 140737488351232 ∧ x.f2.size ≤ 140737488351232 ∧ x.f3.length * 32 ≤ 140737488351232 ∧ (∀ y_ ∈ x.f3, WF141 y_)
def laws_FnExactNamesOf.Pure : Prop := ∀ (l0 : List (S71)), l0.length * 64 ≤ 140737488351232 → (∀ y_ ∈ l0, WF71 y_) → ∃ k, laws_FnExactNamesOf.f k l0 = some true
end Go.Proofs.YtbhklkpjjpkblaaDoor.PI
