-- Printed by this session's pdrive.py over the kit's printer.
import Derived.Test.YtdfopjmokbcnlaaDoorPXx0
import Derived.Test.YtdfopjmokbcnlaaDoorPXx3
namespace Go.Proofs.YtdfopjmokbcnlaaDoor.PX
open Go.RowKit Go.Proofs.YtdfopjmokbcnlaaDoorW.PrintWords Go.Proofs.YtdfopjmokbcnlaaDoorW.PrintLast Go.Proofs.YtdfopjmokbcnlaaDoorW.PrintMore Go.Proofs.YtdfopjmokbcnlaaDoorW.WordsB Go.Proofs.YtdfopjmokbcnlaaDoorW.GlM
attribute [local go_sem] max2_int min2_int max_two min_two max_three min_three max_four min_four   -- for this text's walks alone
set_option linter.unusedVariables false
set_option linter.unusedSimpArgs false

/-! ### impl_DateText: function 10 -/
def impl_DateText.f (a0_0 : Int) (a0_1 : Int) (a0_2 : Int) (a0_3 : Int) (a0_4 : Int) (a0_5 : Int) (a0_6 : Bool) (a0_7 : Int) : Option (ByteArray) := (impl_DateOk.f a0_0 a0_1 a0_2 a0_3 a0_4 a0_5 a0_6 a0_7).bind fun t142 => (if t142 = true then ((impl_padded.f a0_0 4).bind fun t143 => (if t143.size + 1 ≤ 9223372036854775807 then ((impl_padded.f a0_1 2).bind fun t144 => (if t143.size + 1 + t144.size ≤ 9223372036854775807 then (if t143.size + 1 + t144.size + 1 ≤ 9223372036854775807 then ((impl_padded.f a0_2 2).bind fun t145 => (if t143.size + 1 + t144.size + 1 + t145.size ≤ 9223372036854775807 then (if t143.size + 1 + t144.size + 1 + t145.size + 1 ≤ 9223372036854775807 then ((impl_padded.f a0_3 2).bind fun t146 => (if t143.size + 1 + t144.size + 1 + t145.size + 1 + t146.size ≤ 9223372036854775807 then (if t143.size + 1 + t144.size + 1 + t145.size + 1 + t146.size + 1 ≤ 9223372036854775807 then ((impl_padded.f a0_4 2).bind fun t147 => (if t143.size + 1 + t144.size + 1 + t145.size + 1 + t146.size + 1 + t147.size ≤ 9223372036854775807 then (if t143.size + 1 + t144.size + 1 + t145.size + 1 + t146.size + 1 + t147.size + 1 ≤ 9223372036854775807 then ((impl_padded.f a0_5 2).bind fun t148 => (if t143.size + 1 + t144.size + 1 + t145.size + 1 + t146.size + 1 + t147.size + 1 + t148.size ≤ 9223372036854775807 then (if a0_6 = true then (if a0_7 = 0 then (if t143.size + 1 + t144.size + 1 + t145.size + 1 + t146.size + 1 + t147.size + 1 + t148.size + 1 ≤ 9223372036854775807 then (some (((((((((((t143 ++ (⟨#[45]⟩ : ByteArray)) ++ t144) ++ (⟨#[45]⟩ : ByteArray)) ++ t145) ++ (⟨#[84]⟩ : ByteArray)) ++ t146) ++ (⟨#[58]⟩ : ByteArray)) ++ t147) ++ (⟨#[58]⟩ : ByteArray)) ++ t148) ++ (⟨#[90]⟩ : ByteArray))) else (none)) else (if a0_7 < 0 then (if t143.size + 1 + t144.size + 1 + t145.size + 1 + t146.size + 1 + t147.size + 1 + t148.size + 1 ≤ 9223372036854775807 then ((impl_padded.f (wrap64 (Int.tdiv (mx a0_7 (wrap64 (-a0_7))) 60)) 2).bind fun t149 => (if t143.size + 1 + t144.size + 1 + t145.size + 1 + t146.size + 1 + t147.size + 1 + t148.size + 1 + t149.size ≤ 9223372036854775807 then (if t143.size + 1 + t144.size + 1 + t145.size + 1 + t146.size + 1 + t147.size + 1 + t148.size + 1 + t149.size + 1 ≤ 9223372036854775807 then ((impl_padded.f (Int.tmod (mx a0_7 (wrap64 (-a0_7))) 60) 2).bind fun t150 => (if t143.size + 1 + t144.size + 1 + t145.size + 1 + t146.size + 1 + t147.size + 1 + t148.size + 1 + t149.size + 1 + t150.size ≤ 9223372036854775807 then (some ((((((((((((((t143 ++ (⟨#[45]⟩ : ByteArray)) ++ t144) ++ (⟨#[45]⟩ : ByteArray)) ++ t145) ++ (⟨#[84]⟩ : ByteArray)) ++ t146) ++ (⟨#[58]⟩ : ByteArray)) ++ t147) ++ (⟨#[58]⟩ : ByteArray)) ++ t148) ++ (⟨#[45]⟩ : ByteArray)) ++ t149) ++ (⟨#[58]⟩ : ByteArray)) ++ t150)) else (none))) else (none)) else (none))) else (none)) else (if t143.size + 1 + t144.size + 1 + t145.size + 1 + t146.size + 1 + t147.size + 1 + t148.size + 1 ≤ 9223372036854775807 then ((impl_padded.f (wrap64 (Int.tdiv (mx a0_7 (wrap64 (-a0_7))) 60)) 2).bind fun t151 => (if t143.size + 1 + t144.size + 1 + t145.size + 1 + t146.size + 1 + t147.size + 1 + t148.size + 1 + t151.size ≤ 9223372036854775807 then (if t143.size + 1 + t144.size + 1 + t145.size + 1 + t146.size + 1 + t147.size + 1 + t148.size + 1 + t151.size + 1 ≤ 9223372036854775807 then ((impl_padded.f (Int.tmod (mx a0_7 (wrap64 (-a0_7))) 60) 2).bind fun t152 => (if t143.size + 1 + t144.size + 1 + t145.size + 1 + t146.size + 1 + t147.size + 1 + t148.size + 1 + t151.size + 1 + t152.size ≤ 9223372036854775807 then (some ((((((((((((((t143 ++ (⟨#[45]⟩ : ByteArray)) ++ t144) ++ (⟨#[45]⟩ : ByteArray)) ++ t145) ++ (⟨#[84]⟩ : ByteArray)) ++ t146) ++ (⟨#[58]⟩ : ByteArray)) ++ t147) ++ (⟨#[58]⟩ : ByteArray)) ++ t148) ++ (⟨#[43]⟩ : ByteArray)) ++ t151) ++ (⟨#[58]⟩ : ByteArray)) ++ t152)) else (none))) else (none)) else (none))) else (none)))) else (some ((((((((((t143 ++ (⟨#[45]⟩ : ByteArray)) ++ t144) ++ (⟨#[45]⟩ : ByteArray)) ++ t145) ++ (⟨#[84]⟩ : ByteArray)) ++ t146) ++ (⟨#[58]⟩ : ByteArray)) ++ t147) ++ (⟨#[58]⟩ : ByteArray)) ++ t148))) else (none))) else (none)) else (none))) else (none)) else (none))) else (none)) else (none))) else (none)) else (none))) else (none))) else (some (⟨#[]⟩ : ByteArray)))
def impl_DateText.T3 : Bool × List (List Nat × List Nat) := (true, [([], []), ([0], [0]), ([1], [1]), ([2], [2]), ([], []), ([4], [4]), ([5, 2], [5]), ([3, 6], [3, 6]), ([7], [7]), ([], []), ([9], [9]), ([10, 6], [10]), ([8, 11], [8, 11]), ([12], [12]), ([], []), ([14], [14]), ([15, 11], [15]), ([13, 16], [13, 16]), ([17], [17]), ([], []), ([19], [19]), ([20, 16], [20]), ([18, 21], [18, 21]), ([22], [22]), ([], []), ([24], [24]), ([25, 21], [25]), ([23, 26], [23, 26]), ([27, 26, 0, 1, 2, 3, 4, 5, 6, 7, 8, 9, 10, 11, 12, 13, 14, 15, 16, 17, 18, 19, 20, 21, 22, 23, 24, 25, 26, 27], [27])])
def impl_DateText.B3 : List Nat := [0, 1, 3, 7, 0, 16, 55, 127, 255, 0, 512, 1655, 4095, 8191, 0, 16384, 52855, 131071, 262143, 0, 524288, 1691255, 4194303, 8388607, 0, 16777216, 54120055, 134217727, 268435455]
theorem impl_DateText.tab3 : rtab .any (opsOf Tryd.f10 3) = impl_DateText.T3 := by kernel_rfl
theorem impl_DateText.bits3 : waitsOk impl_DateText.T3.2 impl_DateText.B3 = true := by kernel_rfl
set_option maxHeartbeats 8000000 in
set_option maxRecDepth 100000 in
theorem impl_DateText.calls (a0_0 : Int) (a0_1 : Int) (a0_2 : Int) (a0_3 : Int) (a0_4 : Int) (a0_5 : Int) (a0_6 : Bool) (a0_7 : Int) (r : ByteArray) (w : World) (hgl : GL w) (h : impl_DateText.f a0_0 a0_1 a0_2 a0_3 a0_4 a0_5 a0_6 a0_7 = some r) :
  Calls Tryd.prog 10 #[.agg #[.int .i64 a0_0, .int .i64 a0_1, .int .i64 a0_2, .int .i64 a0_3, .int .i64 a0_4, .int .i64 a0_5, .bool a0_6, .int .i64 a0_7]] w fun e w' => e = .returned (.string r) ∧ Below w.heap.size w w' := by
 have hu23 := Tryd.underlying23
 have HGL := Aside0.mk hgl
 clear hgl
 have HB := Aside0.mk (Below.refl w.heap.size w)
 have H : ((impl_DateOk.f a0_0 a0_1 a0_2 a0_3 a0_4 a0_5 a0_6 a0_7).bind fun t142 => (if t142 = true then ((impl_padded.f a0_0 4).bind fun t143 => (if t143.size + 1 ≤ 9223372036854775807 then ((impl_padded.f a0_1 2).bind fun t144 => (if t143.size + 1 + t144.size ≤ 9223372036854775807 then (if t143.size + 1 + t144.size + 1 ≤ 9223372036854775807 then ((impl_padded.f a0_2 2).bind fun t145 => (if t143.size + 1 + t144.size + 1 + t145.size ≤ 9223372036854775807 then (if t143.size + 1 + t144.size + 1 + t145.size + 1 ≤ 9223372036854775807 then ((impl_padded.f a0_3 2).bind fun t146 => (if t143.size + 1 + t144.size + 1 + t145.size + 1 + t146.size ≤ 9223372036854775807 then (if t143.size + 1 + t144.size + 1 + t145.size + 1 + t146.size + 1 ≤ 9223372036854775807 then ((impl_padded.f a0_4 2).bind fun t147 => (if t143.size + 1 + t144.size + 1 + t145.size + 1 + t146.size + 1 + t147.size ≤ 9223372036854775807 then (if t143.size + 1 + t144.size + 1 + t145.size + 1 + t146.size + 1 + t147.size + 1 ≤ 9223372036854775807 then ((impl_padded.f a0_5 2).bind fun t148 => (if t143.size + 1 + t144.size + 1 + t145.size + 1 + t146.size + 1 + t147.size + 1 + t148.size ≤ 9223372036854775807 then (if a0_6 = true then (if a0_7 = 0 then (if t143.size + 1 + t144.size + 1 + t145.size + 1 + t146.size + 1 + t147.size + 1 + t148.size + 1 ≤ 9223372036854775807 then (some (((((((((((t143 ++ (⟨#[45]⟩ : ByteArray)) ++ t144) ++ (⟨#[45]⟩ : ByteArray)) ++ t145) ++ (⟨#[84]⟩ : ByteArray)) ++ t146) ++ (⟨#[58]⟩ : ByteArray)) ++ t147) ++ (⟨#[58]⟩ : ByteArray)) ++ t148) ++ (⟨#[90]⟩ : ByteArray))) else (none)) else (if a0_7 < 0 then (if t143.size + 1 + t144.size + 1 + t145.size + 1 + t146.size + 1 + t147.size + 1 + t148.size + 1 ≤ 9223372036854775807 then ((impl_padded.f (wrap64 (Int.tdiv (mx a0_7 (wrap64 (-a0_7))) 60)) 2).bind fun t149 => (if t143.size + 1 + t144.size + 1 + t145.size + 1 + t146.size + 1 + t147.size + 1 + t148.size + 1 + t149.size ≤ 9223372036854775807 then (if t143.size + 1 + t144.size + 1 + t145.size + 1 + t146.size + 1 + t147.size + 1 + t148.size + 1 + t149.size + 1 ≤ 9223372036854775807 then ((impl_padded.f (Int.tmod (mx a0_7 (wrap64 (-a0_7))) 60) 2).bind fun t150 => (if t143.size + 1 + t144.size + 1 + t145.size + 1 + t146.size + 1 + t147.size + 1 + t148.size + 1 + t149.size + 1 + t150.size ≤ 9223372036854775807 then (some ((((((((((((((t143 ++ (⟨#[45]⟩ : ByteArray)) ++ t144) ++ (⟨#[45]⟩ : ByteArray)) ++ t145) ++ (⟨#[84]⟩ : ByteArray)) ++ t146) ++ (⟨#[58]⟩ : ByteArray)) ++ t147) ++ (⟨#[58]⟩ : ByteArray)) ++ t148) ++ (⟨#[45]⟩ : ByteArray)) ++ t149) ++ (⟨#[58]⟩ : ByteArray)) ++ t150)) else (none))) else (none)) else (none))) else (none)) else (if t143.size + 1 + t144.size + 1 + t145.size + 1 + t146.size + 1 + t147.size + 1 + t148.size + 1 ≤ 9223372036854775807 then ((impl_padded.f (wrap64 (Int.tdiv (mx a0_7 (wrap64 (-a0_7))) 60)) 2).bind fun t151 => (if t143.size + 1 + t144.size + 1 + t145.size + 1 + t146.size + 1 + t147.size + 1 + t148.size + 1 + t151.size ≤ 9223372036854775807 then (if t143.size + 1 + t144.size + 1 + t145.size + 1 + t146.size + 1 + t147.size + 1 + t148.size + 1 + t151.size + 1 ≤ 9223372036854775807 then ((impl_padded.f (Int.tmod (mx a0_7 (wrap64 (-a0_7))) 60) 2).bind fun t152 => (if t143.size + 1 + t144.size + 1 + t145.size + 1 + t146.size + 1 + t147.size + 1 + t148.size + 1 + t151.size + 1 + t152.size ≤ 9223372036854775807 then (some ((((((((((((((t143 ++ (⟨#[45]⟩ : ByteArray)) ++ t144) ++ (⟨#[45]⟩ : ByteArray)) ++ t145) ++ (⟨#[84]⟩ : ByteArray)) ++ t146) ++ (⟨#[58]⟩ : ByteArray)) ++ t147) ++ (⟨#[58]⟩ : ByteArray)) ++ t148) ++ (⟨#[43]⟩ : ByteArray)) ++ t151) ++ (⟨#[58]⟩ : ByteArray)) ++ t152)) else (none))) else (none)) else (none))) else (none)))) else (some ((((((((((t143 ++ (⟨#[45]⟩ : ByteArray)) ++ t144) ++ (⟨#[45]⟩ : ByteArray)) ++ t145) ++ (⟨#[84]⟩ : ByteArray)) ++ t146) ++ (⟨#[58]⟩ : ByteArray)) ++ t147) ++ (⟨#[58]⟩ : ByteArray)) ++ t148))) else (none))) else (none)) else (none))) else (none)) else (none))) else (none)) else (none))) else (none)) else (none))) else (none))) else (some (⟨#[]⟩ : ByteArray)))) = some r := h
 clear h
 replace H := Option.bind_eq_some_iff.mp H
 obtain ⟨t142, A20, H⟩ := H
 replace H : (if t142 = true then ((impl_padded.f a0_0 4).bind fun t143 => (if t143.size + 1 ≤ 9223372036854775807 then ((impl_padded.f a0_1 2).bind fun t144 => (if t143.size + 1 + t144.size ≤ 9223372036854775807 then (if t143.size + 1 + t144.size + 1 ≤ 9223372036854775807 then ((impl_padded.f a0_2 2).bind fun t145 => (if t143.size + 1 + t144.size + 1 + t145.size ≤ 9223372036854775807 then (if t143.size + 1 + t144.size + 1 + t145.size + 1 ≤ 9223372036854775807 then ((impl_padded.f a0_3 2).bind fun t146 => (if t143.size + 1 + t144.size + 1 + t145.size + 1 + t146.size ≤ 9223372036854775807 then (if t143.size + 1 + t144.size + 1 + t145.size + 1 + t146.size + 1 ≤ 9223372036854775807 then ((impl_padded.f a0_4 2).bind fun t147 => (if t143.size + 1 + t144.size + 1 + t145.size + 1 + t146.size + 1 + t147.size ≤ 9223372036854775807 then (if t143.size + 1 + t144.size + 1 + t145.size + 1 + t146.size + 1 + t147.size + 1 ≤ 9223372036854775807 then ((impl_padded.f a0_5 2).bind fun t148 => (if t143.size + 1 + t144.size + 1 + t145.size + 1 + t146.size + 1 + t147.size + 1 + t148.size ≤ 9223372036854775807 then (if a0_6 = true then (if a0_7 = 0 then (if t143.size + 1 + t144.size + 1 + t145.size + 1 + t146.size + 1 + t147.size + 1 + t148.size + 1 ≤ 9223372036854775807 then (some (((((((((((t143 ++ (⟨#[45]⟩ : ByteArray)) ++ t144) ++ (⟨#[45]⟩ : ByteArray)) ++ t145) ++ (⟨#[84]⟩ : ByteArray)) ++ t146) ++ (⟨#[58]⟩ : ByteArray)) ++ t147) ++ (⟨#[58]⟩ : ByteArray)) ++ t148) ++ (⟨#[90]⟩ : ByteArray))) else (none)) else (if a0_7 < 0 then (if t143.size + 1 + t144.size + 1 + t145.size + 1 + t146.size + 1 + t147.size + 1 + t148.size + 1 ≤ 9223372036854775807 then ((impl_padded.f (wrap64 (Int.tdiv (mx a0_7 (wrap64 (-a0_7))) 60)) 2).bind fun t149 => (if t143.size + 1 + t144.size + 1 + t145.size + 1 + t146.size + 1 + t147.size + 1 + t148.size + 1 + t149.size ≤ 9223372036854775807 then (if t143.size + 1 + t144.size + 1 + t145.size + 1 + t146.size + 1 + t147.size + 1 + t148.size + 1 + t149.size + 1 ≤ 9223372036854775807 then ((impl_padded.f (Int.tmod (mx a0_7 (wrap64 (-a0_7))) 60) 2).bind fun t150 => (if t143.size + 1 + t144.size + 1 + t145.size + 1 + t146.size + 1 + t147.size + 1 + t148.size + 1 + t149.size + 1 + t150.size ≤ 9223372036854775807 then (some ((((((((((((((t143 ++ (⟨#[45]⟩ : ByteArray)) ++ t144) ++ (⟨#[45]⟩ : ByteArray)) ++ t145) ++ (⟨#[84]⟩ : ByteArray)) ++ t146) ++ (⟨#[58]⟩ : ByteArray)) ++ t147) ++ (⟨#[58]⟩ : ByteArray)) ++ t148) ++ (⟨#[45]⟩ : ByteArray)) ++ t149) ++ (⟨#[58]⟩ : ByteArray)) ++ t150)) else (none))) else (none)) else (none))) else (none)) else (if t143.size + 1 + t144.size + 1 + t145.size + 1 + t146.size + 1 + t147.size + 1 + t148.size + 1 ≤ 9223372036854775807 then ((impl_padded.f (wrap64 (Int.tdiv (mx a0_7 (wrap64 (-a0_7))) 60)) 2).bind fun t151 => (if t143.size + 1 + t144.size + 1 + t145.size + 1 + t146.size + 1 + t147.size + 1 + t148.size + 1 + t151.size ≤ 9223372036854775807 then (if t143.size + 1 + t144.size + 1 + t145.size + 1 + t146.size + 1 + t147.size + 1 + t148.size + 1 + t151.size + 1 ≤ 9223372036854775807 then ((impl_padded.f (Int.tmod (mx a0_7 (wrap64 (-a0_7))) 60) 2).bind fun t152 => (if t143.size + 1 + t144.size + 1 + t145.size + 1 + t146.size + 1 + t147.size + 1 + t148.size + 1 + t151.size + 1 + t152.size ≤ 9223372036854775807 then (some ((((((((((((((t143 ++ (⟨#[45]⟩ : ByteArray)) ++ t144) ++ (⟨#[45]⟩ : ByteArray)) ++ t145) ++ (⟨#[84]⟩ : ByteArray)) ++ t146) ++ (⟨#[58]⟩ : ByteArray)) ++ t147) ++ (⟨#[58]⟩ : ByteArray)) ++ t148) ++ (⟨#[43]⟩ : ByteArray)) ++ t151) ++ (⟨#[58]⟩ : ByteArray)) ++ t152)) else (none))) else (none)) else (none))) else (none)))) else (some ((((((((((t143 ++ (⟨#[45]⟩ : ByteArray)) ++ t144) ++ (⟨#[45]⟩ : ByteArray)) ++ t145) ++ (⟨#[84]⟩ : ByteArray)) ++ t146) ++ (⟨#[58]⟩ : ByteArray)) ++ t147) ++ (⟨#[58]⟩ : ByteArray)) ++ t148))) else (none))) else (none)) else (none))) else (none)) else (none))) else (none)) else (none))) else (none)) else (none))) else (none))) else (some (⟨#[]⟩ : ByteArray))) = some r := H
 have A2 := Aside0.mk A20
 clear A20
 by_cases c3 : t142 = true
 ·subst c3
  have H1 : ((impl_padded.f a0_0 4).bind fun t143 => (if t143.size + 1 ≤ 9223372036854775807 then ((impl_padded.f a0_1 2).bind fun t144 => (if t143.size + 1 + t144.size ≤ 9223372036854775807 then (if t143.size + 1 + t144.size + 1 ≤ 9223372036854775807 then ((impl_padded.f a0_2 2).bind fun t145 => (if t143.size + 1 + t144.size + 1 + t145.size ≤ 9223372036854775807 then (if t143.size + 1 + t144.size + 1 + t145.size + 1 ≤ 9223372036854775807 then ((impl_padded.f a0_3 2).bind fun t146 => (if t143.size + 1 + t144.size + 1 + t145.size + 1 + t146.size ≤ 9223372036854775807 then (if t143.size + 1 + t144.size + 1 + t145.size + 1 + t146.size + 1 ≤ 9223372036854775807 then ((impl_padded.f a0_4 2).bind fun t147 => (if t143.size + 1 + t144.size + 1 + t145.size + 1 + t146.size + 1 + t147.size ≤ 9223372036854775807 then (if t143.size + 1 + t144.size + 1 + t145.size + 1 + t146.size + 1 + t147.size + 1 ≤ 9223372036854775807 then ((impl_padded.f a0_5 2).bind fun t148 => (if t143.size + 1 + t144.size + 1 + t145.size + 1 + t146.size + 1 + t147.size + 1 + t148.size ≤ 9223372036854775807 then (if a0_6 = true then (if a0_7 = 0 then (if t143.size + 1 + t144.size + 1 + t145.size + 1 + t146.size + 1 + t147.size + 1 + t148.size + 1 ≤ 9223372036854775807 then (some (((((((((((t143 ++ (⟨#[45]⟩ : ByteArray)) ++ t144) ++ (⟨#[45]⟩ : ByteArray)) ++ t145) ++ (⟨#[84]⟩ : ByteArray)) ++ t146) ++ (⟨#[58]⟩ : ByteArray)) ++ t147) ++ (⟨#[58]⟩ : ByteArray)) ++ t148) ++ (⟨#[90]⟩ : ByteArray))) else (none)) else (if a0_7 < 0 then (if t143.size + 1 + t144.size + 1 + t145.size + 1 + t146.size + 1 + t147.size + 1 + t148.size + 1 ≤ 9223372036854775807 then ((impl_padded.f (wrap64 (Int.tdiv (mx a0_7 (wrap64 (-a0_7))) 60)) 2).bind fun t149 => (if t143.size + 1 + t144.size + 1 + t145.size + 1 + t146.size + 1 + t147.size + 1 + t148.size + 1 + t149.size ≤ 9223372036854775807 then (if t143.size + 1 + t144.size + 1 + t145.size + 1 + t146.size + 1 + t147.size + 1 + t148.size + 1 + t149.size + 1 ≤ 9223372036854775807 then ((impl_padded.f (Int.tmod (mx a0_7 (wrap64 (-a0_7))) 60) 2).bind fun t150 => (if t143.size + 1 + t144.size + 1 + t145.size + 1 + t146.size + 1 + t147.size + 1 + t148.size + 1 + t149.size + 1 + t150.size ≤ 9223372036854775807 then (some ((((((((((((((t143 ++ (⟨#[45]⟩ : ByteArray)) ++ t144) ++ (⟨#[45]⟩ : ByteArray)) ++ t145) ++ (⟨#[84]⟩ : ByteArray)) ++ t146) ++ (⟨#[58]⟩ : ByteArray)) ++ t147) ++ (⟨#[58]⟩ : ByteArray)) ++ t148) ++ (⟨#[45]⟩ : ByteArray)) ++ t149) ++ (⟨#[58]⟩ : ByteArray)) ++ t150)) else (none))) else (none)) else (none))) else (none)) else (if t143.size + 1 + t144.size + 1 + t145.size + 1 + t146.size + 1 + t147.size + 1 + t148.size + 1 ≤ 9223372036854775807 then ((impl_padded.f (wrap64 (Int.tdiv (mx a0_7 (wrap64 (-a0_7))) 60)) 2).bind fun t151 => (if t143.size + 1 + t144.size + 1 + t145.size + 1 + t146.size + 1 + t147.size + 1 + t148.size + 1 + t151.size ≤ 9223372036854775807 then (if t143.size + 1 + t144.size + 1 + t145.size + 1 + t146.size + 1 + t147.size + 1 + t148.size + 1 + t151.size + 1 ≤ 9223372036854775807 then ((impl_padded.f (Int.tmod (mx a0_7 (wrap64 (-a0_7))) 60) 2).bind fun t152 => (if t143.size + 1 + t144.size + 1 + t145.size + 1 + t146.size + 1 + t147.size + 1 + t148.size + 1 + t151.size + 1 + t152.size ≤ 9223372036854775807 then (some ((((((((((((((t143 ++ (⟨#[45]⟩ : ByteArray)) ++ t144) ++ (⟨#[45]⟩ : ByteArray)) ++ t145) ++ (⟨#[84]⟩ : ByteArray)) ++ t146) ++ (⟨#[58]⟩ : ByteArray)) ++ t147) ++ (⟨#[58]⟩ : ByteArray)) ++ t148) ++ (⟨#[43]⟩ : ByteArray)) ++ t151) ++ (⟨#[58]⟩ : ByteArray)) ++ t152)) else (none))) else (none)) else (none))) else (none)))) else (some ((((((((((t143 ++ (⟨#[45]⟩ : ByteArray)) ++ t144) ++ (⟨#[45]⟩ : ByteArray)) ++ t145) ++ (⟨#[84]⟩ : ByteArray)) ++ t146) ++ (⟨#[58]⟩ : ByteArray)) ++ t147) ++ (⟨#[58]⟩ : ByteArray)) ++ t148))) else (none))) else (none)) else (none))) else (none)) else (none))) else (none)) else (none))) else (none)) else (none))) else (none))) = some r := by rw [if_pos rfl] at H; exact H
  clear H
  have H := H1
  clear H1
  replace H := Option.bind_eq_some_iff.mp H
  obtain ⟨t143, A40, H⟩ := H
  replace H : (if t143.size + 1 ≤ 9223372036854775807 then ((impl_padded.f a0_1 2).bind fun t144 => (if t143.size + 1 + t144.size ≤ 9223372036854775807 then (if t143.size + 1 + t144.size + 1 ≤ 9223372036854775807 then ((impl_padded.f a0_2 2).bind fun t145 => (if t143.size + 1 + t144.size + 1 + t145.size ≤ 9223372036854775807 then (if t143.size + 1 + t144.size + 1 + t145.size + 1 ≤ 9223372036854775807 then ((impl_padded.f a0_3 2).bind fun t146 => (if t143.size + 1 + t144.size + 1 + t145.size + 1 + t146.size ≤ 9223372036854775807 then (if t143.size + 1 + t144.size + 1 + t145.size + 1 + t146.size + 1 ≤ 9223372036854775807 then ((impl_padded.f a0_4 2).bind fun t147 => (if t143.size + 1 + t144.size + 1 + t145.size + 1 + t146.size + 1 + t147.size ≤ 9223372036854775807 then (if t143.size + 1 + t144.size + 1 + t145.size + 1 + t146.size + 1 + t147.size + 1 ≤ 9223372036854775807 then ((impl_padded.f a0_5 2).bind fun t148 => (if t143.size + 1 + t144.size + 1 + t145.size + 1 + t146.size + 1 + t147.size + 1 + t148.size ≤ 9223372036854775807 then (if a0_6 = true then (if a0_7 = 0 then (if t143.size + 1 + t144.size + 1 + t145.size + 1 + t146.size + 1 + t147.size + 1 + t148.size + 1 ≤ 9223372036854775807 then (some (((((((((((t143 ++ (⟨#[45]⟩ : ByteArray)) ++ t144) ++ (⟨#[45]⟩ : ByteArray)) ++ t145) ++ (⟨#[84]⟩ : ByteArray)) ++ t146) ++ (⟨#[58]⟩ : ByteArray)) ++ t147) ++ (⟨#[58]⟩ : ByteArray)) ++ t148) ++ (⟨#[90]⟩ : ByteArray))) else (none)) else (if a0_7 < 0 then (if t143.size + 1 + t144.size + 1 + t145.size + 1 + t146.size + 1 + t147.size + 1 + t148.size + 1 ≤ 9223372036854775807 then ((impl_padded.f (wrap64 (Int.tdiv (mx a0_7 (wrap64 (-a0_7))) 60)) 2).bind fun t149 => (if t143.size + 1 + t144.size + 1 + t145.size + 1 + t146.size + 1 + t147.size + 1 + t148.size + 1 + t149.size ≤ 9223372036854775807 then (if t143.size + 1 + t144.size + 1 + t145.size + 1 + t146.size + 1 + t147.size + 1 + t148.size + 1 + t149.size + 1 ≤ 9223372036854775807 then ((impl_padded.f (Int.tmod (mx a0_7 (wrap64 (-a0_7))) 60) 2).bind fun t150 => (if t143.size + 1 + t144.size + 1 + t145.size + 1 + t146.size + 1 + t147.size + 1 + t148.size + 1 + t149.size + 1 + t150.size ≤ 9223372036854775807 then (some ((((((((((((((t143 ++ (⟨#[45]⟩ : ByteArray)) ++ t144) ++ (⟨#[45]⟩ : ByteArray)) ++ t145) ++ (⟨#[84]⟩ : ByteArray)) ++ t146) ++ (⟨#[58]⟩ : ByteArray)) ++ t147) ++ (⟨#[58]⟩ : ByteArray)) ++ t148) ++ (⟨#[45]⟩ : ByteArray)) ++ t149) ++ (⟨#[58]⟩ : ByteArray)) ++ t150)) else (none))) else (none)) else (none))) else (none)) else (if t143.size + 1 + t144.size + 1 + t145.size + 1 + t146.size + 1 + t147.size + 1 + t148.size + 1 ≤ 9223372036854775807 then ((impl_padded.f (wrap64 (Int.tdiv (mx a0_7 (wrap64 (-a0_7))) 60)) 2).bind fun t151 => (if t143.size + 1 + t144.size + 1 + t145.size + 1 + t146.size + 1 + t147.size + 1 + t148.size + 1 + t151.size ≤ 9223372036854775807 then (if t143.size + 1 + t144.size + 1 + t145.size + 1 + t146.size + 1 + t147.size + 1 + t148.size + 1 + t151.size + 1 ≤ 9223372036854775807 then ((impl_padded.f (Int.tmod (mx a0_7 (wrap64 (-a0_7))) 60) 2).bind fun t152 => (if t143.size + 1 + t144.size + 1 + t145.size + 1 + t146.size + 1 + t147.size + 1 + t148.size + 1 + t151.size + 1 + t152.size ≤ 9223372036854775807 then (some ((((((((((((((t143 ++ (⟨#[45]⟩ : ByteArray)) ++ t144) ++ (⟨#[45]⟩ : ByteArray)) ++ t145) ++ (⟨#[84]⟩ : ByteArray)) ++ t146) ++ (⟨#[58]⟩ : ByteArray)) ++ t147) ++ (⟨#[58]⟩ : ByteArray)) ++ t148) ++ (⟨#[43]⟩ : ByteArray)) ++ t151) ++ (⟨#[58]⟩ : ByteArray)) ++ t152)) else (none))) else (none)) else (none))) else (none)))) else (some ((((((((((t143 ++ (⟨#[45]⟩ : ByteArray)) ++ t144) ++ (⟨#[45]⟩ : ByteArray)) ++ t145) ++ (⟨#[84]⟩ : ByteArray)) ++ t146) ++ (⟨#[58]⟩ : ByteArray)) ++ t147) ++ (⟨#[58]⟩ : ByteArray)) ++ t148))) else (none))) else (none)) else (none))) else (none)) else (none))) else (none)) else (none))) else (none)) else (none))) else (none)) = some r := H
  have A4 := Aside0.mk A40
  clear A40
  by_cases c5 : t143.size + 1 ≤ 9223372036854775807
  ·rw [if_pos c5] at H
   have c5b0 := eq_true c5
   have c5b1 : decide (t143.size + 1 ≤ 9223372036854775807) = true := decide_eq_true c5
   try have c5b2 : (9223372036854775807 < t143.size + 1) = False := eq_false (Nat.not_lt.2 c5)
   replace H := Option.bind_eq_some_iff.mp H
   obtain ⟨t144, A60, H⟩ := H
   replace H : (if t143.size + 1 + t144.size ≤ 9223372036854775807 then (if t143.size + 1 + t144.size + 1 ≤ 9223372036854775807 then ((impl_padded.f a0_2 2).bind fun t145 => (if t143.size + 1 + t144.size + 1 + t145.size ≤ 9223372036854775807 then (if t143.size + 1 + t144.size + 1 + t145.size + 1 ≤ 9223372036854775807 then ((impl_padded.f a0_3 2).bind fun t146 => (if t143.size + 1 + t144.size + 1 + t145.size + 1 + t146.size ≤ 9223372036854775807 then (if t143.size + 1 + t144.size + 1 + t145.size + 1 + t146.size + 1 ≤ 9223372036854775807 then ((impl_padded.f a0_4 2).bind fun t147 => (if t143.size + 1 + t144.size + 1 + t145.size + 1 + t146.size + 1 + t147.size ≤ 9223372036854775807 then (if t143.size + 1 + t144.size + 1 + t145.size + 1 + t146.size + 1 + t147.size + 1 ≤ 9223372036854775807 then ((impl_padded.f a0_5 2).bind fun t148 => (if t143.size + 1 + t144.size + 1 + t145.size + 1 + t146.size + 1 + t147.size + 1 + t148.size ≤ 9223372036854775807 then (if a0_6 = true then (if a0_7 = 0 then (if t143.size + 1 + t144.size + 1 + t145.size + 1 + t146.size + 1 + t147.size + 1 + t148.size + 1 ≤ 9223372036854775807 then (some (((((((((((t143 ++ (⟨#[45]⟩ : ByteArray)) ++ t144) ++ (⟨#[45]⟩ : ByteArray)) ++ t145) ++ (⟨#[84]⟩ : ByteArray)) ++ t146) ++ (⟨#[58]⟩ : ByteArray)) ++ t147) ++ (⟨#[58]⟩ : ByteArray)) ++ t148) ++ (⟨#[90]⟩ : ByteArray))) else (none)) else (if a0_7 < 0 then (if t143.size + 1 + t144.size + 1 + t145.size + 1 + t146.size + 1 + t147.size + 1 + t148.size + 1 ≤ 9223372036854775807 then ((impl_padded.f (wrap64 (Int.tdiv (mx a0_7 (wrap64 (-a0_7))) 60)) 2).bind fun t149 => (if t143.size + 1 + t144.size + 1 + t145.size + 1 + t146.size + 1 + t147.size + 1 + t148.size + 1 + t149.size ≤ 9223372036854775807 then (if t143.size + 1 + t144.size + 1 + t145.size + 1 + t146.size + 1 + t147.size + 1 + t148.size + 1 + t149.size + 1 ≤ 9223372036854775807 then ((impl_padded.f (Int.tmod (mx a0_7 (wrap64 (-a0_7))) 60) 2).bind fun t150 => (if t143.size + 1 + t144.size + 1 + t145.size + 1 + t146.size + 1 + t147.size + 1 + t148.size + 1 + t149.size + 1 + t150.size ≤ 9223372036854775807 then (some ((((((((((((((t143 ++ (⟨#[45]⟩ : ByteArray)) ++ t144) ++ (⟨#[45]⟩ : ByteArray)) ++ t145) ++ (⟨#[84]⟩ : ByteArray)) ++ t146) ++ (⟨#[58]⟩ : ByteArray)) ++ t147) ++ (⟨#[58]⟩ : ByteArray)) ++ t148) ++ (⟨#[45]⟩ : ByteArray)) ++ t149) ++ (⟨#[58]⟩ : ByteArray)) ++ t150)) else (none))) else (none)) else (none))) else (none)) else (if t143.size + 1 + t144.size + 1 + t145.size + 1 + t146.size + 1 + t147.size + 1 + t148.size + 1 ≤ 9223372036854775807 then ((impl_padded.f (wrap64 (Int.tdiv (mx a0_7 (wrap64 (-a0_7))) 60)) 2).bind fun t151 => (if t143.size + 1 + t144.size + 1 + t145.size + 1 + t146.size + 1 + t147.size + 1 + t148.size + 1 + t151.size ≤ 9223372036854775807 then (if t143.size + 1 + t144.size + 1 + t145.size + 1 + t146.size + 1 + t147.size + 1 + t148.size + 1 + t151.size + 1 ≤ 9223372036854775807 then ((impl_padded.f (Int.tmod (mx a0_7 (wrap64 (-a0_7))) 60) 2).bind fun t152 => (if t143.size + 1 + t144.size + 1 + t145.size + 1 + t146.size + 1 + t147.size + 1 + t148.size + 1 + t151.size + 1 + t152.size ≤ 9223372036854775807 then (some ((((((((((((((t143 ++ (⟨#[45]⟩ : ByteArray)) ++ t144) ++ (⟨#[45]⟩ : ByteArray)) ++ t145) ++ (⟨#[84]⟩ : ByteArray)) ++ t146) ++ (⟨#[58]⟩ : ByteArray)) ++ t147) ++ (⟨#[58]⟩ : ByteArray)) ++ t148) ++ (⟨#[43]⟩ : ByteArray)) ++ t151) ++ (⟨#[58]⟩ : ByteArray)) ++ t152)) else (none))) else (none)) else (none))) else (none)))) else (some ((((((((((t143 ++ (⟨#[45]⟩ : ByteArray)) ++ t144) ++ (⟨#[45]⟩ : ByteArray)) ++ t145) ++ (⟨#[84]⟩ : ByteArray)) ++ t146) ++ (⟨#[58]⟩ : ByteArray)) ++ t147) ++ (⟨#[58]⟩ : ByteArray)) ++ t148))) else (none))) else (none)) else (none))) else (none)) else (none))) else (none)) else (none))) else (none)) else (none)) = some r := H
   have A6 := Aside0.mk A60
   clear A60
   by_cases c7 : t143.size + 1 + t144.size ≤ 9223372036854775807
   ·rw [if_pos c7] at H
    have c7b0 := eq_true c7
    have c7b1 : decide (t143.size + 1 + t144.size ≤ 9223372036854775807) = true := decide_eq_true c7
    try have c7b2 : (9223372036854775807 < t143.size + 1 + t144.size) = False := eq_false (Nat.not_lt.2 c7)
    by_cases c8 : t143.size + 1 + t144.size + 1 ≤ 9223372036854775807
    ·rw [if_pos c8] at H
     have c8b0 := eq_true c8
     have c8b1 : decide (t143.size + 1 + t144.size + 1 ≤ 9223372036854775807) = true := decide_eq_true c8
     try have c8b2 : (9223372036854775807 < t143.size + 1 + t144.size + 1) = False := eq_false (Nat.not_lt.2 c8)
     replace H := Option.bind_eq_some_iff.mp H
     obtain ⟨t145, A90, H⟩ := H
     replace H : (if t143.size + 1 + t144.size + 1 + t145.size ≤ 9223372036854775807 then (if t143.size + 1 + t144.size + 1 + t145.size + 1 ≤ 9223372036854775807 then ((impl_padded.f a0_3 2).bind fun t146 => (if t143.size + 1 + t144.size + 1 + t145.size + 1 + t146.size ≤ 9223372036854775807 then (if t143.size + 1 + t144.size + 1 + t145.size + 1 + t146.size + 1 ≤ 9223372036854775807 then ((impl_padded.f a0_4 2).bind fun t147 => (if t143.size + 1 + t144.size + 1 + t145.size + 1 + t146.size + 1 + t147.size ≤ 9223372036854775807 then (if t143.size + 1 + t144.size + 1 + t145.size + 1 + t146.size + 1 + t147.size + 1 ≤ 9223372036854775807 then ((impl_padded.f a0_5 2).bind fun t148 => (if t143.size + 1 + t144.size + 1 + t145.size + 1 + t146.size + 1 + t147.size + 1 + t148.size ≤ 9223372036854775807 then (if a0_6 = true then (if a0_7 = 0 then (if t143.size + 1 + t144.size + 1 + t145.size + 1 + t146.size + 1 + t147.size + 1 + t148.size + 1 ≤ 9223372036854775807 then (some (((((((((((t143 ++ (⟨#[45]⟩ : ByteArray)) ++ t144) ++ (⟨#[45]⟩ : ByteArray)) ++ t145) ++ (⟨#[84]⟩ : ByteArray)) ++ t146) ++ (⟨#[58]⟩ : ByteArray)) ++ t147) ++ (⟨#[58]⟩ : ByteArray)) ++ t148) ++ (⟨#[90]⟩ : ByteArray))) else (none)) else (if a0_7 < 0 then (if t143.size + 1 + t144.size + 1 + t145.size + 1 + t146.size + 1 + t147.size + 1 + t148.size + 1 ≤ 9223372036854775807 then ((impl_padded.f (wrap64 (Int.tdiv (mx a0_7 (wrap64 (-a0_7))) 60)) 2).bind fun t149 => (if t143.size + 1 + t144.size + 1 + t145.size + 1 + t146.size + 1 + t147.size + 1 + t148.size + 1 + t149.size ≤ 9223372036854775807 then (if t143.size + 1 + t144.size + 1 + t145.size + 1 + t146.size + 1 + t147.size + 1 + t148.size + 1 + t149.size + 1 ≤ 9223372036854775807 then ((impl_padded.f (Int.tmod (mx a0_7 (wrap64 (-a0_7))) 60) 2).bind fun t150 => (if t143.size + 1 + t144.size + 1 + t145.size + 1 + t146.size + 1 + t147.size + 1 + t148.size + 1 + t149.size + 1 + t150.size ≤ 9223372036854775807 then (some ((((((((((((((t143 ++ (⟨#[45]⟩ : ByteArray)) ++ t144) ++ (⟨#[45]⟩ : ByteArray)) ++ t145) ++ (⟨#[84]⟩ : ByteArray)) ++ t146) ++ (⟨#[58]⟩ : ByteArray)) ++ t147) ++ (⟨#[58]⟩ : ByteArray)) ++ t148) ++ (⟨#[45]⟩ : ByteArray)) ++ t149) ++ (⟨#[58]⟩ : ByteArray)) ++ t150)) else (none))) else (none)) else (none))) else (none)) else (if t143.size + 1 + t144.size + 1 + t145.size + 1 + t146.size + 1 + t147.size + 1 + t148.size + 1 ≤ 9223372036854775807 then ((impl_padded.f (wrap64 (Int.tdiv (mx a0_7 (wrap64 (-a0_7))) 60)) 2).bind fun t151 => (if t143.size + 1 + t144.size + 1 + t145.size + 1 + t146.size + 1 + t147.size + 1 + t148.size + 1 + t151.size ≤ 9223372036854775807 then (if t143.size + 1 + t144.size + 1 + t145.size + 1 + t146.size + 1 + t147.size + 1 + t148.size + 1 + t151.size + 1 ≤ 9223372036854775807 then ((impl_padded.f (Int.tmod (mx a0_7 (wrap64 (-a0_7))) 60) 2).bind fun t152 => (if t143.size + 1 + t144.size + 1 + t145.size + 1 + t146.size + 1 + t147.size + 1 + t148.size + 1 + t151.size + 1 + t152.size ≤ 9223372036854775807 then (some ((((((((((((((t143 ++ (⟨#[45]⟩ : ByteArray)) ++ t144) ++ (⟨#[45]⟩ : ByteArray)) ++ t145) ++ (⟨#[84]⟩ : ByteArray)) ++ t146) ++ (⟨#[58]⟩ : ByteArray)) ++ t147) ++ (⟨#[58]⟩ : ByteArray)) ++ t148) ++ (⟨#[43]⟩ : ByteArray)) ++ t151) ++ (⟨#[58]⟩ : ByteArray)) ++ t152)) else (none))) else (none)) else (none))) else (none)))) else (some ((((((((((t143 ++ (⟨#[45]⟩ : ByteArray)) ++ t144) ++ (⟨#[45]⟩ : ByteArray)) ++ t145) ++ (⟨#[84]⟩ : ByteArray)) ++ t146) ++ (⟨#[58]⟩ : ByteArray)) ++ t147) ++ (⟨#[58]⟩ : ByteArray)) ++ t148))) else (none))) else (none)) else (none))) else (none)) else (none))) else (none)) else (none)) = some r := H
     have A9 := Aside0.mk A90
     clear A90
     by_cases c10 : t143.size + 1 + t144.size + 1 + t145.size ≤ 9223372036854775807
     ·rw [if_pos c10] at H
      have c10b0 := eq_true c10
      have c10b1 : decide (t143.size + 1 + t144.size + 1 + t145.size ≤ 9223372036854775807) = true := decide_eq_true c10
      try have c10b2 : (9223372036854775807 < t143.size + 1 + t144.size + 1 + t145.size) = False := eq_false (Nat.not_lt.2 c10)
      by_cases c11 : t143.size + 1 + t144.size + 1 + t145.size + 1 ≤ 9223372036854775807
      ·rw [if_pos c11] at H
       have c11b0 := eq_true c11
       have c11b1 : decide (t143.size + 1 + t144.size + 1 + t145.size + 1 ≤ 9223372036854775807) = true := decide_eq_true c11
       try have c11b2 : (9223372036854775807 < t143.size + 1 + t144.size + 1 + t145.size + 1) = False := eq_false (Nat.not_lt.2 c11)
       replace H := Option.bind_eq_some_iff.mp H
       obtain ⟨t146, A120, H⟩ := H
       replace H : (if t143.size + 1 + t144.size + 1 + t145.size + 1 + t146.size ≤ 9223372036854775807 then (if t143.size + 1 + t144.size + 1 + t145.size + 1 + t146.size + 1 ≤ 9223372036854775807 then ((impl_padded.f a0_4 2).bind fun t147 => (if t143.size + 1 + t144.size + 1 + t145.size + 1 + t146.size + 1 + t147.size ≤ 9223372036854775807 then (if t143.size + 1 + t144.size + 1 + t145.size + 1 + t146.size + 1 + t147.size + 1 ≤ 9223372036854775807 then ((impl_padded.f a0_5 2).bind fun t148 => (if t143.size + 1 + t144.size + 1 + t145.size + 1 + t146.size + 1 + t147.size + 1 + t148.size ≤ 9223372036854775807 then (if a0_6 = true then (if a0_7 = 0 then (if t143.size + 1 + t144.size + 1 + t145.size + 1 + t146.size + 1 + t147.size + 1 + t148.size + 1 ≤ 9223372036854775807 then (some (((((((((((t143 ++ (⟨#[45]⟩ : ByteArray)) ++ t144) ++ (⟨#[45]⟩ : ByteArray)) ++ t145) ++ (⟨#[84]⟩ : ByteArray)) ++ t146) ++ (⟨#[58]⟩ : ByteArray)) ++ t147) ++ (⟨#[58]⟩ : ByteArray)) ++ t148) ++ (⟨#[90]⟩ : ByteArray))) else (none)) else (if a0_7 < 0 then (if t143.size + 1 + t144.size + 1 + t145.size + 1 + t146.size + 1 + t147.size + 1 + t148.size + 1 ≤ 9223372036854775807 then ((impl_padded.f (wrap64 (Int.tdiv (mx a0_7 (wrap64 (-a0_7))) 60)) 2).bind fun t149 => (if t143.size + 1 + t144.size + 1 + t145.size + 1 + t146.size + 1 + t147.size + 1 + t148.size + 1 + t149.size ≤ 9223372036854775807 then (if t143.size + 1 + t144.size + 1 + t145.size + 1 + t146.size + 1 + t147.size + 1 + t148.size + 1 + t149.size + 1 ≤ 9223372036854775807 then ((impl_padded.f (Int.tmod (mx a0_7 (wrap64 (-a0_7))) 60) 2).bind fun t150 => (if t143.size + 1 + t144.size + 1 + t145.size + 1 + t146.size + 1 + t147.size + 1 + t148.size + 1 + t149.size + 1 + t150.size ≤ 9223372036854775807 then (some ((((((((((((((t143 ++ (⟨#[45]⟩ : ByteArray)) ++ t144) ++ (⟨#[45]⟩ : ByteArray)) ++ t145) ++ (⟨#[84]⟩ : ByteArray)) ++ t146) ++ (⟨#[58]⟩ : ByteArray)) ++ t147) ++ (⟨#[58]⟩ : ByteArray)) ++ t148) ++ (⟨#[45]⟩ : ByteArray)) ++ t149) ++ (⟨#[58]⟩ : ByteArray)) ++ t150)) else (none))) else (none)) else (none))) else (none)) else (if t143.size + 1 + t144.size + 1 + t145.size + 1 + t146.size + 1 + t147.size + 1 + t148.size + 1 ≤ 9223372036854775807 then ((impl_padded.f (wrap64 (Int.tdiv (mx a0_7 (wrap64 (-a0_7))) 60)) 2).bind fun t151 => (if t143.size + 1 + t144.size + 1 + t145.size + 1 + t146.size + 1 + t147.size + 1 + t148.size + 1 + t151.size ≤ 9223372036854775807 then (if t143.size + 1 + t144.size + 1 + t145.size + 1 + t146.size + 1 + t147.size + 1 + t148.size + 1 + t151.size + 1 ≤ 9223372036854775807 then ((impl_padded.f (Int.tmod (mx a0_7 (wrap64 (-a0_7))) 60) 2).bind fun t152 => (if t143.size + 1 + t144.size + 1 + t145.size + 1 + t146.size + 1 + t147.size + 1 + t148.size + 1 + t151.size + 1 + t152.size ≤ 9223372036854775807 then (some ((((((((((((((t143 ++ (⟨#[45]⟩ : ByteArray)) ++ t144) ++ (⟨#[45]⟩ : ByteArray)) ++ t145) ++ (⟨#[84]⟩ : ByteArray)) ++ t146) ++ (⟨#[58]⟩ : ByteArray)) ++ t147) ++ (⟨#[58]⟩ : ByteArray)) ++ t148) ++ (⟨#[43]⟩ : ByteArray)) ++ t151) ++ (⟨#[58]⟩ : ByteArray)) ++ t152)) else (none))) else (none)) else (none))) else (none)))) else (some ((((((((((t143 ++ (⟨#[45]⟩ : ByteArray)) ++ t144) ++ (⟨#[45]⟩ : ByteArray)) ++ t145) ++ (⟨#[84]⟩ : ByteArray)) ++ t146) ++ (⟨#[58]⟩ : ByteArray)) ++ t147) ++ (⟨#[58]⟩ : ByteArray)) ++ t148))) else (none))) else (none)) else (none))) else (none)) else (none)) = some r := H
       have A12 := Aside0.mk A120
       clear A120
       by_cases c13 : t143.size + 1 + t144.size + 1 + t145.size + 1 + t146.size ≤ 9223372036854775807
       ·rw [if_pos c13] at H
        have c13b0 := eq_true c13
        have c13b1 : decide (t143.size + 1 + t144.size + 1 + t145.size + 1 + t146.size ≤ 9223372036854775807) = true := decide_eq_true c13
        try have c13b2 : (9223372036854775807 < t143.size + 1 + t144.size + 1 + t145.size + 1 + t146.size) = False := eq_false (Nat.not_lt.2 c13)
        by_cases c14 : t143.size + 1 + t144.size + 1 + t145.size + 1 + t146.size + 1 ≤ 9223372036854775807
        ·rw [if_pos c14] at H
         have c14b0 := eq_true c14
         have c14b1 : decide (t143.size + 1 + t144.size + 1 + t145.size + 1 + t146.size + 1 ≤ 9223372036854775807) = true := decide_eq_true c14
         try have c14b2 : (9223372036854775807 < t143.size + 1 + t144.size + 1 + t145.size + 1 + t146.size + 1) = False := eq_false (Nat.not_lt.2 c14)
         replace H := Option.bind_eq_some_iff.mp H
         obtain ⟨t147, A150, H⟩ := H
         replace H : (if t143.size + 1 + t144.size + 1 + t145.size + 1 + t146.size + 1 + t147.size ≤ 9223372036854775807 then (if t143.size + 1 + t144.size + 1 + t145.size + 1 + t146.size + 1 + t147.size + 1 ≤ 9223372036854775807 then ((impl_padded.f a0_5 2).bind fun t148 => (if t143.size + 1 + t144.size + 1 + t145.size + 1 + t146.size + 1 + t147.size + 1 + t148.size ≤ 9223372036854775807 then (if a0_6 = true then (if a0_7 = 0 then (if t143.size + 1 + t144.size + 1 + t145.size + 1 + t146.size + 1 + t147.size + 1 + t148.size + 1 ≤ 9223372036854775807 then (some (((((((((((t143 ++ (⟨#[45]⟩ : ByteArray)) ++ t144) ++ (⟨#[45]⟩ : ByteArray)) ++ t145) ++ (⟨#[84]⟩ : ByteArray)) ++ t146) ++ (⟨#[58]⟩ : ByteArray)) ++ t147) ++ (⟨#[58]⟩ : ByteArray)) ++ t148) ++ (⟨#[90]⟩ : ByteArray))) else (none)) else (if a0_7 < 0 then (if t143.size + 1 + t144.size + 1 + t145.size + 1 + t146.size + 1 + t147.size + 1 + t148.size + 1 ≤ 9223372036854775807 then ((impl_padded.f (wrap64 (Int.tdiv (mx a0_7 (wrap64 (-a0_7))) 60)) 2).bind fun t149 => (if t143.size + 1 + t144.size + 1 + t145.size + 1 + t146.size + 1 + t147.size + 1 + t148.size + 1 + t149.size ≤ 9223372036854775807 then (if t143.size + 1 + t144.size + 1 + t145.size + 1 + t146.size + 1 + t147.size + 1 + t148.size + 1 + t149.size + 1 ≤ 9223372036854775807 then ((impl_padded.f (Int.tmod (mx a0_7 (wrap64 (-a0_7))) 60) 2).bind fun t150 => (if t143.size + 1 + t144.size + 1 + t145.size + 1 + t146.size + 1 + t147.size + 1 + t148.size + 1 + t149.size + 1 + t150.size ≤ 9223372036854775807 then (some ((((((((((((((t143 ++ (⟨#[45]⟩ : ByteArray)) ++ t144) ++ (⟨#[45]⟩ : ByteArray)) ++ t145) ++ (⟨#[84]⟩ : ByteArray)) ++ t146) ++ (⟨#[58]⟩ : ByteArray)) ++ t147) ++ (⟨#[58]⟩ : ByteArray)) ++ t148) ++ (⟨#[45]⟩ : ByteArray)) ++ t149) ++ (⟨#[58]⟩ : ByteArray)) ++ t150)) else (none))) else (none)) else (none))) else (none)) else (if t143.size + 1 + t144.size + 1 + t145.size + 1 + t146.size + 1 + t147.size + 1 + t148.size + 1 ≤ 9223372036854775807 then ((impl_padded.f (wrap64 (Int.tdiv (mx a0_7 (wrap64 (-a0_7))) 60)) 2).bind fun t151 => (if t143.size + 1 + t144.size + 1 + t145.size + 1 + t146.size + 1 + t147.size + 1 + t148.size + 1 + t151.size ≤ 9223372036854775807 then (if t143.size + 1 + t144.size + 1 + t145.size + 1 + t146.size + 1 + t147.size + 1 + t148.size + 1 + t151.size + 1 ≤ 9223372036854775807 then ((impl_padded.f (Int.tmod (mx a0_7 (wrap64 (-a0_7))) 60) 2).bind fun t152 => (if t143.size + 1 + t144.size + 1 + t145.size + 1 + t146.size + 1 + t147.size + 1 + t148.size + 1 + t151.size + 1 + t152.size ≤ 9223372036854775807 then (some ((((((((((((((t143 ++ (⟨#[45]⟩ : ByteArray)) ++ t144) ++ (⟨#[45]⟩ : ByteArray)) ++ t145) ++ (⟨#[84]⟩ : ByteArray)) ++ t146) ++ (⟨#[58]⟩ : ByteArray)) ++ t147) ++ (⟨#[58]⟩ : ByteArray)) ++ t148) ++ (⟨#[43]⟩ : ByteArray)) ++ t151) ++ (⟨#[58]⟩ : ByteArray)) ++ t152)) else (none))) else (none)) else (none))) else (none)))) else (some ((((((((((t143 ++ (⟨#[45]⟩ : ByteArray)) ++ t144) ++ (⟨#[45]⟩ : ByteArray)) ++ t145) ++ (⟨#[84]⟩ : ByteArray)) ++ t146) ++ (⟨#[58]⟩ : ByteArray)) ++ t147) ++ (⟨#[58]⟩ : ByteArray)) ++ t148))) else (none))) else (none)) else (none)) = some r := H
         have A15 := Aside0.mk A150
         clear A150
         by_cases c16 : t143.size + 1 + t144.size + 1 + t145.size + 1 + t146.size + 1 + t147.size ≤ 9223372036854775807
         ·rw [if_pos c16] at H
          have c16b0 := eq_true c16
          have c16b1 : decide (t143.size + 1 + t144.size + 1 + t145.size + 1 + t146.size + 1 + t147.size ≤ 9223372036854775807) = true := decide_eq_true c16
          try have c16b2 : (9223372036854775807 < t143.size + 1 + t144.size + 1 + t145.size + 1 + t146.size + 1 + t147.size) = False := eq_false (Nat.not_lt.2 c16)
          by_cases c17 : t143.size + 1 + t144.size + 1 + t145.size + 1 + t146.size + 1 + t147.size + 1 ≤ 9223372036854775807
          ·rw [if_pos c17] at H
           have c17b0 := eq_true c17
           have c17b1 : decide (t143.size + 1 + t144.size + 1 + t145.size + 1 + t146.size + 1 + t147.size + 1 ≤ 9223372036854775807) = true := decide_eq_true c17
           try have c17b2 : (9223372036854775807 < t143.size + 1 + t144.size + 1 + t145.size + 1 + t146.size + 1 + t147.size + 1) = False := eq_false (Nat.not_lt.2 c17)
           replace H := Option.bind_eq_some_iff.mp H
           obtain ⟨t148, A180, H⟩ := H
           replace H : (if t143.size + 1 + t144.size + 1 + t145.size + 1 + t146.size + 1 + t147.size + 1 + t148.size ≤ 9223372036854775807 then (if a0_6 = true then (if a0_7 = 0 then (if t143.size + 1 + t144.size + 1 + t145.size + 1 + t146.size + 1 + t147.size + 1 + t148.size + 1 ≤ 9223372036854775807 then (some (((((((((((t143 ++ (⟨#[45]⟩ : ByteArray)) ++ t144) ++ (⟨#[45]⟩ : ByteArray)) ++ t145) ++ (⟨#[84]⟩ : ByteArray)) ++ t146) ++ (⟨#[58]⟩ : ByteArray)) ++ t147) ++ (⟨#[58]⟩ : ByteArray)) ++ t148) ++ (⟨#[90]⟩ : ByteArray))) else (none)) else (if a0_7 < 0 then (if t143.size + 1 + t144.size + 1 + t145.size + 1 + t146.size + 1 + t147.size + 1 + t148.size + 1 ≤ 9223372036854775807 then ((impl_padded.f (wrap64 (Int.tdiv (mx a0_7 (wrap64 (-a0_7))) 60)) 2).bind fun t149 => (if t143.size + 1 + t144.size + 1 + t145.size + 1 + t146.size + 1 + t147.size + 1 + t148.size + 1 + t149.size ≤ 9223372036854775807 then (if t143.size + 1 + t144.size + 1 + t145.size + 1 + t146.size + 1 + t147.size + 1 + t148.size + 1 + t149.size + 1 ≤ 9223372036854775807 then ((impl_padded.f (Int.tmod (mx a0_7 (wrap64 (-a0_7))) 60) 2).bind fun t150 => (if t143.size + 1 + t144.size + 1 + t145.size + 1 + t146.size + 1 + t147.size + 1 + t148.size + 1 + t149.size + 1 + t150.size ≤ 9223372036854775807 then (some ((((((((((((((t143 ++ (⟨#[45]⟩ : ByteArray)) ++ t144) ++ (⟨#[45]⟩ : ByteArray)) ++ t145) ++ (⟨#[84]⟩ : ByteArray)) ++ t146) ++ (⟨#[58]⟩ : ByteArray)) ++ t147) ++ (⟨#[58]⟩ : ByteArray)) ++ t148) ++ (⟨#[45]⟩ : ByteArray)) ++ t149) ++ (⟨#[58]⟩ : ByteArray)) ++ t150)) else (none))) else (none)) else (none))) else (none)) else (if t143.size + 1 + t144.size + 1 + t145.size + 1 + t146.size + 1 + t147.size + 1 + t148.size + 1 ≤ 9223372036854775807 then ((impl_padded.f (wrap64 (Int.tdiv (mx a0_7 (wrap64 (-a0_7))) 60)) 2).bind fun t151 => (if t143.size + 1 + t144.size + 1 + t145.size + 1 + t146.size + 1 + t147.size + 1 + t148.size + 1 + t151.size ≤ 9223372036854775807 then (if t143.size + 1 + t144.size + 1 + t145.size + 1 + t146.size + 1 + t147.size + 1 + t148.size + 1 + t151.size + 1 ≤ 9223372036854775807 then ((impl_padded.f (Int.tmod (mx a0_7 (wrap64 (-a0_7))) 60) 2).bind fun t152 => (if t143.size + 1 + t144.size + 1 + t145.size + 1 + t146.size + 1 + t147.size + 1 + t148.size + 1 + t151.size + 1 + t152.size ≤ 9223372036854775807 then (some ((((((((((((((t143 ++ (⟨#[45]⟩ : ByteArray)) ++ t144) ++ (⟨#[45]⟩ : ByteArray)) ++ t145) ++ (⟨#[84]⟩ : ByteArray)) ++ t146) ++ (⟨#[58]⟩ : ByteArray)) ++ t147) ++ (⟨#[58]⟩ : ByteArray)) ++ t148) ++ (⟨#[43]⟩ : ByteArray)) ++ t151) ++ (⟨#[58]⟩ : ByteArray)) ++ t152)) else (none))) else (none)) else (none))) else (none)))) else (some ((((((((((t143 ++ (⟨#[45]⟩ : ByteArray)) ++ t144) ++ (⟨#[45]⟩ : ByteArray)) ++ t145) ++ (⟨#[84]⟩ : ByteArray)) ++ t146) ++ (⟨#[58]⟩ : ByteArray)) ++ t147) ++ (⟨#[58]⟩ : ByteArray)) ++ t148))) else (none)) = some r := H
           have A18 := Aside0.mk A180
           clear A180
           by_cases c19 : t143.size + 1 + t144.size + 1 + t145.size + 1 + t146.size + 1 + t147.size + 1 + t148.size ≤ 9223372036854775807
           ·rw [if_pos c19] at H
            have c19b0 := eq_true c19
            have c19b1 : decide (t143.size + 1 + t144.size + 1 + t145.size + 1 + t146.size + 1 + t147.size + 1 + t148.size ≤ 9223372036854775807) = true := decide_eq_true c19
            try have c19b2 : (9223372036854775807 < t143.size + 1 + t144.size + 1 + t145.size + 1 + t146.size + 1 + t147.size + 1 + t148.size) = False := eq_false (Nat.not_lt.2 c19)
            by_cases c20 : a0_6 = true
            ·subst c20
             have H1 : (if a0_7 = 0 then (if t143.size + 1 + t144.size + 1 + t145.size + 1 + t146.size + 1 + t147.size + 1 + t148.size + 1 ≤ 9223372036854775807 then (some (((((((((((t143 ++ (⟨#[45]⟩ : ByteArray)) ++ t144) ++ (⟨#[45]⟩ : ByteArray)) ++ t145) ++ (⟨#[84]⟩ : ByteArray)) ++ t146) ++ (⟨#[58]⟩ : ByteArray)) ++ t147) ++ (⟨#[58]⟩ : ByteArray)) ++ t148) ++ (⟨#[90]⟩ : ByteArray))) else (none)) else (if a0_7 < 0 then (if t143.size + 1 + t144.size + 1 + t145.size + 1 + t146.size + 1 + t147.size + 1 + t148.size + 1 ≤ 9223372036854775807 then ((impl_padded.f (wrap64 (Int.tdiv (mx a0_7 (wrap64 (-a0_7))) 60)) 2).bind fun t149 => (if t143.size + 1 + t144.size + 1 + t145.size + 1 + t146.size + 1 + t147.size + 1 + t148.size + 1 + t149.size ≤ 9223372036854775807 then (if t143.size + 1 + t144.size + 1 + t145.size + 1 + t146.size + 1 + t147.size + 1 + t148.size + 1 + t149.size + 1 ≤ 9223372036854775807 then ((impl_padded.f (Int.tmod (mx a0_7 (wrap64 (-a0_7))) 60) 2).bind fun t150 => (if t143.size + 1 + t144.size + 1 + t145.size + 1 + t146.size + 1 + t147.size + 1 + t148.size + 1 + t149.size + 1 + t150.size ≤ 9223372036854775807 then (some ((((((((((((((t143 ++ (⟨#[45]⟩ : ByteArray)) ++ t144) ++ (⟨#[45]⟩ : ByteArray)) ++ t145) ++ (⟨#[84]⟩ : ByteArray)) ++ t146) ++ (⟨#[58]⟩ : ByteArray)) ++ t147) ++ (⟨#[58]⟩ : ByteArray)) ++ t148) ++ (⟨#[45]⟩ : ByteArray)) ++ t149) ++ (⟨#[58]⟩ : ByteArray)) ++ t150)) else (none))) else (none)) else (none))) else (none)) else (if t143.size + 1 + t144.size + 1 + t145.size + 1 + t146.size + 1 + t147.size + 1 + t148.size + 1 ≤ 9223372036854775807 then ((impl_padded.f (wrap64 (Int.tdiv (mx a0_7 (wrap64 (-a0_7))) 60)) 2).bind fun t151 => (if t143.size + 1 + t144.size + 1 + t145.size + 1 + t146.size + 1 + t147.size + 1 + t148.size + 1 + t151.size ≤ 9223372036854775807 then (if t143.size + 1 + t144.size + 1 + t145.size + 1 + t146.size + 1 + t147.size + 1 + t148.size + 1 + t151.size + 1 ≤ 9223372036854775807 then ((impl_padded.f (Int.tmod (mx a0_7 (wrap64 (-a0_7))) 60) 2).bind fun t152 => (if t143.size + 1 + t144.size + 1 + t145.size + 1 + t146.size + 1 + t147.size + 1 + t148.size + 1 + t151.size + 1 + t152.size ≤ 9223372036854775807 then (some ((((((((((((((t143 ++ (⟨#[45]⟩ : ByteArray)) ++ t144) ++ (⟨#[45]⟩ : ByteArray)) ++ t145) ++ (⟨#[84]⟩ : ByteArray)) ++ t146) ++ (⟨#[58]⟩ : ByteArray)) ++ t147) ++ (⟨#[58]⟩ : ByteArray)) ++ t148) ++ (⟨#[43]⟩ : ByteArray)) ++ t151) ++ (⟨#[58]⟩ : ByteArray)) ++ t152)) else (none))) else (none)) else (none))) else (none)))) = some r := by rw [if_pos rfl] at H; exact H
             clear H
             have H := H1
             clear H1
             by_cases c21 : a0_7 = 0
             ·rw [if_pos c21] at H
              have c21b0 : (a0_7 == 0) = true := beq_iff_eq.mpr c21
              have c21b1 : (a0_7 != 0) = false := bne_eq_false_iff_eq.mpr c21
              clear c21
              by_cases c22 : t143.size + 1 + t144.size + 1 + t145.size + 1 + t146.size + 1 + t147.size + 1 + t148.size + 1 ≤ 9223372036854775807
              ·rw [if_pos c22] at H
               have c22b0 := eq_true c22
               have c22b1 : decide (t143.size + 1 + t144.size + 1 + t145.size + 1 + t146.size + 1 + t147.size + 1 + t148.size + 1 ≤ 9223372036854775807) = true := decide_eq_true c22
               try have c22b2 : (9223372036854775807 < t143.size + 1 + t144.size + 1 + t145.size + 1 + t146.size + 1 + t147.size + 1 + t148.size + 1) = False := eq_false (Nat.not_lt.2 c22)
               obtain rfl := Option.some.inj H
               go_enter Tryd.func10, Tryd.ntmps10
               try go_wp2_with (first | ((with_reducible refine gate_dst (N := 1) rfl ?_); refine box_event ?hg (N := 1) ?hd (cs := #[.int .i64 a0_0, .int .i64 a0_1, .int .i64 a0_2, .int .i64 a0_3, .int .i64 a0_4, .int .i64 a0_5, .bool true, .int .i64 a0_7]) (t := 23) ?hr ?_; (case hd => rfl); (case hg => rfl); (case hr => first | (go_simp; done) | (go_simp; rfl)); intro gb141 hg w23 hbox hb; have n0_ := Aside0.mk (below_step (by repeat (first | (with_reducible first | exact HB.out | apply below_alloc | apply pw_below_drewN | apply below_drew1) | exact HB.out)) hb); have n1_ := Aside0.mk (hbox); have n2_ := Aside0.mk ((by rw [hg]; exact (below_size (by repeat (first | (with_reducible first | exact HB.out | apply below_alloc | apply pw_below_drewN | apply below_drew1) | exact HB.out))) : w.heap.size ≤ gb141)); have n3_ := Aside0.mk ((by rw [hg]; exact (below_size (by repeat (first | (with_reducible first | exact HB.out | apply below_alloc | apply pw_below_drewN | apply below_drew1) | exact HB.out))) : w.heap.size ≤ gb141)); clear HB; have HB := n0_; have BK141 := n1_; have GW141 := n2_; have GE141 := n3_; clear n0_ n1_ n2_ n3_; clear hb hbox hg; have hcz24_0 : w23.cell? ⟨gb141, 0, none⟩ = some (.int .i64 a0_0) := (blk_cell BK141.out 0).trans rfl; have hcz24_1 : w23.cell? ⟨gb141, 1, none⟩ = some (.int .i64 a0_1) := (blk_cell BK141.out 1).trans rfl; have hcz24_2 : w23.cell? ⟨gb141, 2, none⟩ = some (.int .i64 a0_2) := (blk_cell BK141.out 2).trans rfl; have hcz24_3 : w23.cell? ⟨gb141, 3, none⟩ = some (.int .i64 a0_3) := (blk_cell BK141.out 3).trans rfl; have hcz24_4 : w23.cell? ⟨gb141, 4, none⟩ = some (.int .i64 a0_4) := (blk_cell BK141.out 4).trans rfl; have hcz24_5 : w23.cell? ⟨gb141, 5, none⟩ = some (.int .i64 a0_5) := (blk_cell BK141.out 5).trans rfl; have hcz24_6 : w23.cell? ⟨gb141, 6, none⟩ = some (.bool true) := (blk_cell BK141.out 6).trans rfl; have hcz24_7 : w23.cell? ⟨gb141, 7, none⟩ = some (.int .i64 a0_7) := (blk_cell BK141.out 7).trans rfl; have hfz24_0 := blk_frozen BK141.out 0; have hfz24_1 := blk_frozen BK141.out 1; have hfz24_2 := blk_frozen BK141.out 2; have hfz24_3 := blk_frozen BK141.out 3; have hfz24_4 := blk_frozen BK141.out 4; have hfz24_5 := blk_frozen BK141.out 5; have hfz24_6 := blk_frozen BK141.out 6; have hfz24_7 := blk_frozen BK141.out 7) | ((with_reducible refine gate_callee (f := 16) rfl ?_); refine goesL_ (some 6) rfl rfl Tryd.func16 (by kernel_rfl) rfl #[.agg #[.int .i64 a0_0, .int .i64 a0_1, .int .i64 a0_2, .int .i64 a0_3, .int .i64 a0_4, .int .i64 a0_5, .bool true, .int .i64 a0_7]] rfl (by (try simp only [List.map_toArray, List.map_cons, List.map_nil]); first | done | rfl | (simp only [List.length_drop, List.length_take]; rfl)) ?_; (with_reducible refine (impl_DateOk.calls a0_0 a0_1 a0_2 a0_3 a0_4 a0_5 true a0_7 true _ A2.out).mono ?_); rintro e w25 ⟨rfl, hb⟩; refine ⟨_, rfl, ?_⟩; have n0_ := Aside0.mk (blk_below (g := gb141) (o := .cells #[.int .i64 a0_0, .int .i64 a0_1, .int .i64 a0_2, .int .i64 a0_3, .int .i64 a0_4, .int .i64 a0_5, .bool true, .int .i64 a0_7] 23 (0, 0)) (by (with_reducible repeat (first | refine blk_drewN ?_ _ | refine blk_drew ?_ | refine blk_alloc ?_ _)); exact BK141.out) hb); have n1_ := Aside0.mk (below_step (by repeat (first | (with_reducible first | exact HB.out | apply below_alloc | apply pw_below_drewN | apply below_drew1 | refine below_set ?_ GE141.out) | exact HB.out)) hb); clear BK141; clear HB; have BK141 := n0_; have HB := n1_; clear n0_ n1_; (try clear hb); (try clear hb2); (try clear hk); (try clear hi)))
               have n0_ := Aside0.mk (blk_drew BK141.out)
               have n1_ := Aside0.mk (below_drew1 HB.out)
               clear BK141
               clear HB
               have BK141 := n0_
               have HB := n1_
               clear n0_ n1_
               refine start_ (n := 29) (S := fun w' => w'.cell? ⟨gb141, 0, none⟩ = some (.int .i64 a0_0) ∧ w'.cell? ⟨gb141, 1, none⟩ = some (.int .i64 a0_1) ∧ w'.cell? ⟨gb141, 2, none⟩ = some (.int .i64 a0_2) ∧ w'.cell? ⟨gb141, 3, none⟩ = some (.int .i64 a0_3) ∧ w'.cell? ⟨gb141, 4, none⟩ = some (.int .i64 a0_4) ∧ w'.cell? ⟨gb141, 5, none⟩ = some (.int .i64 a0_5) ∧ w'.cell? ⟨gb141, 6, none⟩ = some (.bool true) ∧ w'.cell? ⟨gb141, 7, none⟩ = some (.int .i64 a0_7)) (ds := []) #[false, false, false, false, false, false, false, false, false, false, false, false, false, false, false, false, false, false, false, false, false, false, false, false, false, false, false, false, false] (by kernel_rfl) rfl rfl ⟨(blk_cell BK141.out 0).trans rfl, (blk_cell BK141.out 1).trans rfl, (blk_cell BK141.out 2).trans rfl, (blk_cell BK141.out 3).trans rfl, (blk_cell BK141.out 4).trans rfl, (blk_cell BK141.out 5).trans rfl, (blk_cell BK141.out 6).trans rfl, (blk_cell BK141.out 7).trans rfl⟩ (fun hHeld => ?_); refine with_tabW impl_DateText.tab3 impl_DateText.bits3 (fun HT_ HW_ => ?_)
               generalize w25.drew = w26 at BK141 HB hHeld ⊢
               refine pure_ (i := 0) (N := some 8) (v := ?_) (a' := ?_) #[true, false, false, false, false, false, false, false, false, false, false, false, false, false, false, false, false, false, false, false, false, false, false, false, false, false, false, false, false] rfl rfl (any_of HT_.out (by kernel_rfl)) (fun _ _ _ h => h) (Or.inl ⟨by rfl, ?_⟩) ?_ ?_
               rotate_left
               ·intro w'
                go_simp
                with_reducible rfl
               rotate_left
               ·simp only [Act.put, List.setIfInBounds_toArray, List.set_cons_zero, List.set_cons_succ, i64_w, i32_w]
                rfl
               refine pure_ (i := 4) (N := some 12) (v := ?_) (a' := ?_) #[true, false, false, false, true, false, false, false, false, false, false, false, false, false, false, false, false, false, false, false, false, false, false, false, false, false, false, false, false] rfl rfl (any_of HT_.out (by kernel_rfl)) (fun _ _ _ h => h) (Or.inl ⟨by rfl, ?_⟩) ?_ ?_
               rotate_left
               ·intro w'
                go_simp
                with_reducible rfl
               rotate_left
               ·simp only [Act.put, List.setIfInBounds_toArray, List.set_cons_zero, List.set_cons_succ, i64_w, i32_w]
                rfl
               refine pure_ (i := 9) (N := some 17) (v := ?_) (a' := ?_) #[true, false, false, false, true, false, false, false, false, true, false, false, false, false, false, false, false, false, false, false, false, false, false, false, false, false, false, false, false] rfl rfl (any_of HT_.out (by kernel_rfl)) (fun _ _ _ h => h) (Or.inl ⟨by rfl, ?_⟩) ?_ ?_
               rotate_left
               ·intro w'
                go_simp
                with_reducible rfl
               rotate_left
               ·simp only [Act.put, List.setIfInBounds_toArray, List.set_cons_zero, List.set_cons_succ, i64_w, i32_w]
                rfl
               refine pure_ (i := 14) (N := some 22) (v := ?_) (a' := ?_) #[true, false, false, false, true, false, false, false, false, true, false, false, false, false, true, false, false, false, false, false, false, false, false, false, false, false, false, false, false] rfl rfl (any_of HT_.out (by kernel_rfl)) (fun _ _ _ h => h) (Or.inl ⟨by rfl, ?_⟩) ?_ ?_
               rotate_left
               ·intro w'
                go_simp
                with_reducible rfl
               rotate_left
               ·simp only [Act.put, List.setIfInBounds_toArray, List.set_cons_zero, List.set_cons_succ, i64_w, i32_w]
                rfl
               refine pure_ (i := 19) (N := some 27) (v := ?_) (a' := ?_) #[true, false, false, false, true, false, false, false, false, true, false, false, false, false, true, false, false, false, false, true, false, false, false, false, false, false, false, false, false] rfl rfl (any_of HT_.out (by kernel_rfl)) (fun _ _ _ h => h) (Or.inl ⟨by rfl, ?_⟩) ?_ ?_
               rotate_left
               ·intro w'
                go_simp
                with_reducible rfl
               rotate_left
               ·simp only [Act.put, List.setIfInBounds_toArray, List.set_cons_zero, List.set_cons_succ, i64_w, i32_w]
                rfl
               refine pure_ (i := 24) (N := some 32) (v := ?_) (a' := ?_) #[true, false, false, false, true, false, false, false, false, true, false, false, false, false, true, false, false, false, false, true, false, false, false, false, true, false, false, false, false] rfl rfl (any_of HT_.out (by kernel_rfl)) (fun _ _ _ h => h) (Or.inl ⟨by rfl, ?_⟩) ?_ ?_
               rotate_left
               ·intro w'
                go_simp
                with_reducible rfl
               rotate_left
               ·simp only [Act.put, List.setIfInBounds_toArray, List.set_cons_zero, List.set_cons_succ, i64_w, i32_w]
                rfl
               refine take_ (i := 1) (N := some 9) (v := ?_) (a' := ?_) #[true, true, false, false, true, false, false, false, false, true, false, false, false, false, true, false, false, false, false, true, false, false, false, false, true, false, false, false, false] rfl rfl (take_ofW HT_.out HW_.out (by kernel_rfl)) (fun _ _ _ h => h) (Or.inl ⟨by rfl, ?_⟩) hHeld ?_ ?_
               rotate_left
               ·rintro w' ⟨s0, s1, s2, s3, s4, s5, s6, s7⟩
                go_simp
                with_reducible rfl
               rotate_left
               ·simp only [Act.put, List.setIfInBounds_toArray, List.set_cons_zero, List.set_cons_succ, i64_w, i32_w]
                rfl
               refine take_ (i := 5) (N := some 13) (v := ?_) (a' := ?_) #[true, true, false, false, true, true, false, false, false, true, false, false, false, false, true, false, false, false, false, true, false, false, false, false, true, false, false, false, false] rfl rfl (take_ofW HT_.out HW_.out (by kernel_rfl)) (fun _ _ _ h => h) (Or.inl ⟨by rfl, ?_⟩) hHeld ?_ ?_
               rotate_left
               ·rintro w' ⟨s0, s1, s2, s3, s4, s5, s6, s7⟩
                go_simp
                with_reducible rfl
               rotate_left
               ·simp only [Act.put, List.setIfInBounds_toArray, List.set_cons_zero, List.set_cons_succ, i64_w, i32_w]
                rfl
               refine take_ (i := 10) (N := some 18) (v := ?_) (a' := ?_) #[true, true, false, false, true, true, false, false, false, true, true, false, false, false, true, false, false, false, false, true, false, false, false, false, true, false, false, false, false] rfl rfl (take_ofW HT_.out HW_.out (by kernel_rfl)) (fun _ _ _ h => h) (Or.inl ⟨by rfl, ?_⟩) hHeld ?_ ?_
               rotate_left
               ·rintro w' ⟨s0, s1, s2, s3, s4, s5, s6, s7⟩
                go_simp
                with_reducible rfl
               rotate_left
               ·simp only [Act.put, List.setIfInBounds_toArray, List.set_cons_zero, List.set_cons_succ, i64_w, i32_w]
                rfl
               refine take_ (i := 15) (N := some 23) (v := ?_) (a' := ?_) #[true, true, false, false, true, true, false, false, false, true, true, false, false, false, true, true, false, false, false, true, false, false, false, false, true, false, false, false, false] rfl rfl (take_ofW HT_.out HW_.out (by kernel_rfl)) (fun _ _ _ h => h) (Or.inl ⟨by rfl, ?_⟩) hHeld ?_ ?_
               rotate_left
               ·rintro w' ⟨s0, s1, s2, s3, s4, s5, s6, s7⟩
                go_simp
                with_reducible rfl
               rotate_left
               ·simp only [Act.put, List.setIfInBounds_toArray, List.set_cons_zero, List.set_cons_succ, i64_w, i32_w]
                rfl
               refine take_ (i := 20) (N := some 28) (v := ?_) (a' := ?_) #[true, true, false, false, true, true, false, false, false, true, true, false, false, false, true, true, false, false, false, true, true, false, false, false, true, false, false, false, false] rfl rfl (take_ofW HT_.out HW_.out (by kernel_rfl)) (fun _ _ _ h => h) (Or.inl ⟨by rfl, ?_⟩) hHeld ?_ ?_
               rotate_left
               ·rintro w' ⟨s0, s1, s2, s3, s4, s5, s6, s7⟩
                go_simp
                with_reducible rfl
               rotate_left
               ·simp only [Act.put, List.setIfInBounds_toArray, List.set_cons_zero, List.set_cons_succ, i64_w, i32_w]
                rfl
               refine take_ (i := 25) (N := some 33) (v := ?_) (a' := ?_) #[true, true, false, false, true, true, false, false, false, true, true, false, false, false, true, true, false, false, false, true, true, false, false, false, true, true, false, false, false] rfl rfl (take_ofW HT_.out HW_.out (by kernel_rfl)) (fun _ _ _ h => h) (Or.inl ⟨by rfl, ?_⟩) hHeld ?_ ?_
               rotate_left
               ·rintro w' ⟨s0, s1, s2, s3, s4, s5, s6, s7⟩
                go_simp
                with_reducible rfl
               rotate_left
               ·simp only [Act.put, List.setIfInBounds_toArray, List.set_cons_zero, List.set_cons_succ, i64_w, i32_w]
                rfl
               refine one_ (i := 2) (N := some 10) #[true, true, true, false, true, true, false, false, false, true, true, false, false, false, true, true, false, false, false, true, true, false, false, false, true, true, false, false, false] rfl rfl (one_of HT_.out (by kernel_rfl)) (by decide) (fun K hK => ?_)
               refine goes_ Tryd.func18 (by kernel_rfl) rfl #[.int .i64 a0_0, .int .i64 4] (by rfl) rfl rfl (by (try simp only [List.map_toArray, List.map_cons, List.map_nil]); first | done | rfl | (simp only [List.length_drop, List.length_take]; rfl)) ?_
               with_reducible refine (impl_padded.calls a0_0 4 t143 _ ?side1 A4.out).mono ?_
               (case side1 => exact GL.below HGL.out (by repeat (first | (with_reducible first | exact HB.out | apply below_alloc | apply pw_below_drewN | apply below_drew1 | refine below_set ?_ GE141.out) | exact HB.out)))
               rintro e w27 ⟨rfl, hb⟩
               refine ⟨_, rfl, ?_⟩
               have n0_ := Aside0.mk (blk_below (g := gb141) (o := .cells #[.int .i64 a0_0, .int .i64 a0_1, .int .i64 a0_2, .int .i64 a0_3, .int .i64 a0_4, .int .i64 a0_5, .bool true, .int .i64 a0_7] 23 (0, 0)) (by (with_reducible repeat (first | refine blk_drewN ?_ _ | refine blk_drew ?_ | refine blk_alloc ?_ _)); exact BK141.out) hb)
               have n1_ := Aside0.mk (below_step (by repeat (first | (with_reducible first | exact HB.out | apply below_alloc | apply pw_below_drewN | apply below_drew1 | refine below_set ?_ GE141.out) | exact HB.out)) hb)
               clear BK141
               clear HB
               have BK141 := n0_
               have HB := n1_
               clear n0_ n1_
               (try clear hb)
               (try clear hb2)
               (try clear hk)
               (try clear hi)
               refine hK.out _ _ ⟨(blk_cell BK141.out 0).trans rfl, (blk_cell BK141.out 1).trans rfl, (blk_cell BK141.out 2).trans rfl, (blk_cell BK141.out 3).trans rfl, (blk_cell BK141.out 4).trans rfl, (blk_cell BK141.out 5).trans rfl, (blk_cell BK141.out 6).trans rfl, (blk_cell BK141.out 7).trans rfl⟩ (fun hHeld => ?_)
               clear hK K
               refine norm_ (a' := ?_) ?_ ?_
               rotate_left
               ·show Act.put _ (some 10) _ = _
                simp only [Act.put, List.setIfInBounds_toArray, List.set_cons_zero, List.set_cons_succ, i64_w, i32_w]
                rfl
               refine pure_ (i := 3) (N := some 11) (v := ?_) (a' := ?_) #[true, true, true, true, true, true, false, false, false, true, true, false, false, false, true, true, false, false, false, true, true, false, false, false, true, true, false, false, false] rfl rfl (any_of HT_.out (by kernel_rfl)) (fun _ _ _ h => h) (Or.inl ⟨by rfl, ?_⟩) ?_ ?_
               rotate_left
               ·intro w'
                go_simp
                with_reducible rfl
               rotate_left
               ·simp only [Act.put, List.setIfInBounds_toArray, List.set_cons_zero, List.set_cons_succ, i64_w, i32_w]
                rfl
               refine one_ (i := 6) (N := some 14) #[true, true, true, true, true, true, true, false, false, true, true, false, false, false, true, true, false, false, false, true, true, false, false, false, true, true, false, false, false] rfl rfl (one_of HT_.out (by kernel_rfl)) (by decide) (fun K hK => ?_)
               refine goes_ Tryd.func18 (by kernel_rfl) rfl #[.int .i64 a0_1, .int .i64 2] (by rfl) rfl rfl (by (try simp only [List.map_toArray, List.map_cons, List.map_nil]); first | done | rfl | (simp only [List.length_drop, List.length_take]; rfl)) ?_
               with_reducible refine (impl_padded.calls a0_1 2 t144 _ ?side1 A6.out).mono ?_
               (case side1 => exact GL.below HGL.out (by repeat (first | (with_reducible first | exact HB.out | apply below_alloc | apply pw_below_drewN | apply below_drew1 | refine below_set ?_ GE141.out) | exact HB.out)))
               rintro e w28 ⟨rfl, hb⟩
               refine ⟨_, rfl, ?_⟩
               have n0_ := Aside0.mk (blk_below (g := gb141) (o := .cells #[.int .i64 a0_0, .int .i64 a0_1, .int .i64 a0_2, .int .i64 a0_3, .int .i64 a0_4, .int .i64 a0_5, .bool true, .int .i64 a0_7] 23 (0, 0)) (by (with_reducible repeat (first | refine blk_drewN ?_ _ | refine blk_drew ?_ | refine blk_alloc ?_ _)); exact BK141.out) hb)
               have n1_ := Aside0.mk (below_step (by repeat (first | (with_reducible first | exact HB.out | apply below_alloc | apply pw_below_drewN | apply below_drew1 | refine below_set ?_ GE141.out) | exact HB.out)) hb)
               clear BK141
               clear HB
               have BK141 := n0_
               have HB := n1_
               clear n0_ n1_
               (try clear hb)
               (try clear hb2)
               (try clear hk)
               (try clear hi)
               refine hK.out _ _ ⟨(blk_cell BK141.out 0).trans rfl, (blk_cell BK141.out 1).trans rfl, (blk_cell BK141.out 2).trans rfl, (blk_cell BK141.out 3).trans rfl, (blk_cell BK141.out 4).trans rfl, (blk_cell BK141.out 5).trans rfl, (blk_cell BK141.out 6).trans rfl, (blk_cell BK141.out 7).trans rfl⟩ (fun hHeld => ?_)
               clear hK K
               refine norm_ (a' := ?_) ?_ ?_
               rotate_left
               ·show Act.put _ (some 14) _ = _
                simp only [Act.put, List.setIfInBounds_toArray, List.set_cons_zero, List.set_cons_succ, i64_w, i32_w]
                rfl
               refine pure_ (i := 7) (N := some 15) (v := ?_) (a' := ?_) #[true, true, true, true, true, true, true, true, false, true, true, false, false, false, true, true, false, false, false, true, true, false, false, false, true, true, false, false, false] rfl rfl (any_of HT_.out (by kernel_rfl)) (fun _ _ _ h => h) (Or.inl ⟨by rfl, ?_⟩) ?_ ?_
               rotate_left
               ·intro w'
                go_simp
                with_reducible rfl
               rotate_left
               ·simp only [Act.put, List.setIfInBounds_toArray, List.set_cons_zero, List.set_cons_succ, i64_w, i32_w]
                rfl
               refine pure_ (i := 8) (N := some 16) (v := ?_) (a' := ?_) #[true, true, true, true, true, true, true, true, true, true, true, false, false, false, true, true, false, false, false, true, true, false, false, false, true, true, false, false, false] rfl rfl (any_of HT_.out (by kernel_rfl)) (fun _ _ _ h => h) (Or.inl ⟨by rfl, ?_⟩) ?_ ?_
               rotate_left
               ·intro w'
                go_simp
                with_reducible rfl
               rotate_left
               ·simp only [Act.put, List.setIfInBounds_toArray, List.set_cons_zero, List.set_cons_succ, i64_w, i32_w]
                rfl
               refine one_ (i := 11) (N := some 19) #[true, true, true, true, true, true, true, true, true, true, true, true, false, false, true, true, false, false, false, true, true, false, false, false, true, true, false, false, false] rfl rfl (one_of HT_.out (by kernel_rfl)) (by decide) (fun K hK => ?_)
               refine goes_ Tryd.func18 (by kernel_rfl) rfl #[.int .i64 a0_2, .int .i64 2] (by rfl) rfl rfl (by (try simp only [List.map_toArray, List.map_cons, List.map_nil]); first | done | rfl | (simp only [List.length_drop, List.length_take]; rfl)) ?_
               with_reducible refine (impl_padded.calls a0_2 2 t145 _ ?side1 A9.out).mono ?_
               (case side1 => exact GL.below HGL.out (by repeat (first | (with_reducible first | exact HB.out | apply below_alloc | apply pw_below_drewN | apply below_drew1 | refine below_set ?_ GE141.out) | exact HB.out)))
               rintro e w29 ⟨rfl, hb⟩
               refine ⟨_, rfl, ?_⟩
               have n0_ := Aside0.mk (blk_below (g := gb141) (o := .cells #[.int .i64 a0_0, .int .i64 a0_1, .int .i64 a0_2, .int .i64 a0_3, .int .i64 a0_4, .int .i64 a0_5, .bool true, .int .i64 a0_7] 23 (0, 0)) (by (with_reducible repeat (first | refine blk_drewN ?_ _ | refine blk_drew ?_ | refine blk_alloc ?_ _)); exact BK141.out) hb)
               have n1_ := Aside0.mk (below_step (by repeat (first | (with_reducible first | exact HB.out | apply below_alloc | apply pw_below_drewN | apply below_drew1 | refine below_set ?_ GE141.out) | exact HB.out)) hb)
               clear BK141
               clear HB
               have BK141 := n0_
               have HB := n1_
               clear n0_ n1_
               (try clear hb)
               (try clear hb2)
               (try clear hk)
               (try clear hi)
               refine hK.out _ _ ⟨(blk_cell BK141.out 0).trans rfl, (blk_cell BK141.out 1).trans rfl, (blk_cell BK141.out 2).trans rfl, (blk_cell BK141.out 3).trans rfl, (blk_cell BK141.out 4).trans rfl, (blk_cell BK141.out 5).trans rfl, (blk_cell BK141.out 6).trans rfl, (blk_cell BK141.out 7).trans rfl⟩ (fun hHeld => ?_)
               clear hK K
               refine norm_ (a' := ?_) ?_ ?_
               rotate_left
               ·show Act.put _ (some 19) _ = _
                simp only [Act.put, List.setIfInBounds_toArray, List.set_cons_zero, List.set_cons_succ, i64_w, i32_w]
                rfl
               refine pure_ (i := 12) (N := some 20) (v := ?_) (a' := ?_) #[true, true, true, true, true, true, true, true, true, true, true, true, true, false, true, true, false, false, false, true, true, false, false, false, true, true, false, false, false] rfl rfl (any_of HT_.out (by kernel_rfl)) (fun _ _ _ h => h) (Or.inl ⟨by rfl, ?_⟩) ?_ ?_
               rotate_left
               ·intro w'
                go_simp
                with_reducible rfl
               rotate_left
               ·simp only [Act.put, List.setIfInBounds_toArray, List.set_cons_zero, List.set_cons_succ, i64_w, i32_w]
                rfl
               refine pure_ (i := 13) (N := some 21) (v := ?_) (a' := ?_) #[true, true, true, true, true, true, true, true, true, true, true, true, true, true, true, true, false, false, false, true, true, false, false, false, true, true, false, false, false] rfl rfl (any_of HT_.out (by kernel_rfl)) (fun _ _ _ h => h) (Or.inl ⟨by rfl, ?_⟩) ?_ ?_
               rotate_left
               ·intro w'
                go_simp
                with_reducible rfl
               rotate_left
               ·simp only [Act.put, List.setIfInBounds_toArray, List.set_cons_zero, List.set_cons_succ, i64_w, i32_w]
                rfl
               refine one_ (i := 16) (N := some 24) #[true, true, true, true, true, true, true, true, true, true, true, true, true, true, true, true, true, false, false, true, true, false, false, false, true, true, false, false, false] rfl rfl (one_of HT_.out (by kernel_rfl)) (by decide) (fun K hK => ?_)
               refine goes_ Tryd.func18 (by kernel_rfl) rfl #[.int .i64 a0_3, .int .i64 2] (by rfl) rfl rfl (by (try simp only [List.map_toArray, List.map_cons, List.map_nil]); first | done | rfl | (simp only [List.length_drop, List.length_take]; rfl)) ?_
               with_reducible refine (impl_padded.calls a0_3 2 t146 _ ?side1 A12.out).mono ?_
               (case side1 => exact GL.below HGL.out (by repeat (first | (with_reducible first | exact HB.out | apply below_alloc | apply pw_below_drewN | apply below_drew1 | refine below_set ?_ GE141.out) | exact HB.out)))
               rintro e w30 ⟨rfl, hb⟩
               refine ⟨_, rfl, ?_⟩
               have n0_ := Aside0.mk (blk_below (g := gb141) (o := .cells #[.int .i64 a0_0, .int .i64 a0_1, .int .i64 a0_2, .int .i64 a0_3, .int .i64 a0_4, .int .i64 a0_5, .bool true, .int .i64 a0_7] 23 (0, 0)) (by (with_reducible repeat (first | refine blk_drewN ?_ _ | refine blk_drew ?_ | refine blk_alloc ?_ _)); exact BK141.out) hb)
               have n1_ := Aside0.mk (below_step (by repeat (first | (with_reducible first | exact HB.out | apply below_alloc | apply pw_below_drewN | apply below_drew1 | refine below_set ?_ GE141.out) | exact HB.out)) hb)
               clear BK141
               clear HB
               have BK141 := n0_
               have HB := n1_
               clear n0_ n1_
               (try clear hb)
               (try clear hb2)
               (try clear hk)
               (try clear hi)
               refine hK.out _ _ ⟨(blk_cell BK141.out 0).trans rfl, (blk_cell BK141.out 1).trans rfl, (blk_cell BK141.out 2).trans rfl, (blk_cell BK141.out 3).trans rfl, (blk_cell BK141.out 4).trans rfl, (blk_cell BK141.out 5).trans rfl, (blk_cell BK141.out 6).trans rfl, (blk_cell BK141.out 7).trans rfl⟩ (fun hHeld => ?_)
               clear hK K
               refine norm_ (a' := ?_) ?_ ?_
               rotate_left
               ·show Act.put _ (some 24) _ = _
                simp only [Act.put, List.setIfInBounds_toArray, List.set_cons_zero, List.set_cons_succ, i64_w, i32_w]
                rfl
               refine pure_ (i := 17) (N := some 25) (v := ?_) (a' := ?_) #[true, true, true, true, true, true, true, true, true, true, true, true, true, true, true, true, true, true, false, true, true, false, false, false, true, true, false, false, false] rfl rfl (any_of HT_.out (by kernel_rfl)) (fun _ _ _ h => h) (Or.inl ⟨by rfl, ?_⟩) ?_ ?_
               rotate_left
               ·intro w'
                go_simp
                with_reducible rfl
               rotate_left
               ·simp only [Act.put, List.setIfInBounds_toArray, List.set_cons_zero, List.set_cons_succ, i64_w, i32_w]
                rfl
               refine pure_ (i := 18) (N := some 26) (v := ?_) (a' := ?_) #[true, true, true, true, true, true, true, true, true, true, true, true, true, true, true, true, true, true, true, true, true, false, false, false, true, true, false, false, false] rfl rfl (any_of HT_.out (by kernel_rfl)) (fun _ _ _ h => h) (Or.inl ⟨by rfl, ?_⟩) ?_ ?_
               rotate_left
               ·intro w'
                go_simp
                with_reducible rfl
               rotate_left
               ·simp only [Act.put, List.setIfInBounds_toArray, List.set_cons_zero, List.set_cons_succ, i64_w, i32_w]
                rfl
               refine one_ (i := 21) (N := some 29) #[true, true, true, true, true, true, true, true, true, true, true, true, true, true, true, true, true, true, true, true, true, true, false, false, true, true, false, false, false] rfl rfl (one_of HT_.out (by kernel_rfl)) (by decide) (fun K hK => ?_)
               refine goes_ Tryd.func18 (by kernel_rfl) rfl #[.int .i64 a0_4, .int .i64 2] (by rfl) rfl rfl (by (try simp only [List.map_toArray, List.map_cons, List.map_nil]); first | done | rfl | (simp only [List.length_drop, List.length_take]; rfl)) ?_
               with_reducible refine (impl_padded.calls a0_4 2 t147 _ ?side1 A15.out).mono ?_
               (case side1 => exact GL.below HGL.out (by repeat (first | (with_reducible first | exact HB.out | apply below_alloc | apply pw_below_drewN | apply below_drew1 | refine below_set ?_ GE141.out) | exact HB.out)))
               rintro e w31 ⟨rfl, hb⟩
               refine ⟨_, rfl, ?_⟩
               have n0_ := Aside0.mk (blk_below (g := gb141) (o := .cells #[.int .i64 a0_0, .int .i64 a0_1, .int .i64 a0_2, .int .i64 a0_3, .int .i64 a0_4, .int .i64 a0_5, .bool true, .int .i64 a0_7] 23 (0, 0)) (by (with_reducible repeat (first | refine blk_drewN ?_ _ | refine blk_drew ?_ | refine blk_alloc ?_ _)); exact BK141.out) hb)
               have n1_ := Aside0.mk (below_step (by repeat (first | (with_reducible first | exact HB.out | apply below_alloc | apply pw_below_drewN | apply below_drew1 | refine below_set ?_ GE141.out) | exact HB.out)) hb)
               clear BK141
               clear HB
               have BK141 := n0_
               have HB := n1_
               clear n0_ n1_
               (try clear hb)
               (try clear hb2)
               (try clear hk)
               (try clear hi)
               refine hK.out _ _ ⟨(blk_cell BK141.out 0).trans rfl, (blk_cell BK141.out 1).trans rfl, (blk_cell BK141.out 2).trans rfl, (blk_cell BK141.out 3).trans rfl, (blk_cell BK141.out 4).trans rfl, (blk_cell BK141.out 5).trans rfl, (blk_cell BK141.out 6).trans rfl, (blk_cell BK141.out 7).trans rfl⟩ (fun hHeld => ?_)
               clear hK K
               refine norm_ (a' := ?_) ?_ ?_
               rotate_left
               ·show Act.put _ (some 29) _ = _
                simp only [Act.put, List.setIfInBounds_toArray, List.set_cons_zero, List.set_cons_succ, i64_w, i32_w]
                rfl
               refine pure_ (i := 22) (N := some 30) (v := ?_) (a' := ?_) #[true, true, true, true, true, true, true, true, true, true, true, true, true, true, true, true, true, true, true, true, true, true, true, false, true, true, false, false, false] rfl rfl (any_of HT_.out (by kernel_rfl)) (fun _ _ _ h => h) (Or.inl ⟨by rfl, ?_⟩) ?_ ?_
               rotate_left
               ·intro w'
                go_simp
                with_reducible rfl
               rotate_left
               ·simp only [Act.put, List.setIfInBounds_toArray, List.set_cons_zero, List.set_cons_succ, i64_w, i32_w]
                rfl
               refine pure_ (i := 23) (N := some 31) (v := ?_) (a' := ?_) #[true, true, true, true, true, true, true, true, true, true, true, true, true, true, true, true, true, true, true, true, true, true, true, true, true, true, false, false, false] rfl rfl (any_of HT_.out (by kernel_rfl)) (fun _ _ _ h => h) (Or.inl ⟨by rfl, ?_⟩) ?_ ?_
               rotate_left
               ·intro w'
                go_simp
                with_reducible rfl
               rotate_left
               ·simp only [Act.put, List.setIfInBounds_toArray, List.set_cons_zero, List.set_cons_succ, i64_w, i32_w]
                rfl
               refine one_ (i := 26) (N := some 34) #[true, true, true, true, true, true, true, true, true, true, true, true, true, true, true, true, true, true, true, true, true, true, true, true, true, true, true, false, false] rfl rfl (one_of HT_.out (by kernel_rfl)) (by decide) (fun K hK => ?_)
               refine goes_ Tryd.func18 (by kernel_rfl) rfl #[.int .i64 a0_5, .int .i64 2] (by rfl) rfl rfl (by (try simp only [List.map_toArray, List.map_cons, List.map_nil]); first | done | rfl | (simp only [List.length_drop, List.length_take]; rfl)) ?_
               with_reducible refine (impl_padded.calls a0_5 2 t148 _ ?side1 A18.out).mono ?_
               (case side1 => exact GL.below HGL.out (by repeat (first | (with_reducible first | exact HB.out | apply below_alloc | apply pw_below_drewN | apply below_drew1 | refine below_set ?_ GE141.out) | exact HB.out)))
               rintro e w32 ⟨rfl, hb⟩
               refine ⟨_, rfl, ?_⟩
               have n0_ := Aside0.mk (blk_below (g := gb141) (o := .cells #[.int .i64 a0_0, .int .i64 a0_1, .int .i64 a0_2, .int .i64 a0_3, .int .i64 a0_4, .int .i64 a0_5, .bool true, .int .i64 a0_7] 23 (0, 0)) (by (with_reducible repeat (first | refine blk_drewN ?_ _ | refine blk_drew ?_ | refine blk_alloc ?_ _)); exact BK141.out) hb)
               have n1_ := Aside0.mk (below_step (by repeat (first | (with_reducible first | exact HB.out | apply below_alloc | apply pw_below_drewN | apply below_drew1 | refine below_set ?_ GE141.out) | exact HB.out)) hb)
               clear BK141
               clear HB
               have BK141 := n0_
               have HB := n1_
               clear n0_ n1_
               (try clear hb)
               (try clear hb2)
               (try clear hk)
               (try clear hi)
               refine hK.out _ _ ⟨(blk_cell BK141.out 0).trans rfl, (blk_cell BK141.out 1).trans rfl, (blk_cell BK141.out 2).trans rfl, (blk_cell BK141.out 3).trans rfl, (blk_cell BK141.out 4).trans rfl, (blk_cell BK141.out 5).trans rfl, (blk_cell BK141.out 6).trans rfl, (blk_cell BK141.out 7).trans rfl⟩ (fun hHeld => ?_)
               clear hK K
               refine norm_ (a' := ?_) ?_ ?_
               rotate_left
               ·show Act.put _ (some 34) _ = _
                simp only [Act.put, List.setIfInBounds_toArray, List.set_cons_zero, List.set_cons_succ, i64_w, i32_w]
                rfl
               refine pure_ (i := 27) (N := some 35) (v := ?_) (a' := ?_) #[true, true, true, true, true, true, true, true, true, true, true, true, true, true, true, true, true, true, true, true, true, true, true, true, true, true, true, true, false] rfl rfl (any_of HT_.out (by kernel_rfl)) (fun _ _ _ h => h) (Or.inl ⟨by rfl, ?_⟩) ?_ ?_
               rotate_left
               ·intro w'
                go_simp
                with_reducible rfl
               rotate_left
               ·simp only [Act.put, List.setIfInBounds_toArray, List.set_cons_zero, List.set_cons_succ, i64_w, i32_w]
                rfl
               refine pure_ (i := 28) (N := some 3) (v := ?_) (a' := ?_) #[true, true, true, true, true, true, true, true, true, true, true, true, true, true, true, true, true, true, true, true, true, true, true, true, true, true, true, true, true] rfl rfl (any_of HT_.out (by kernel_rfl)) (fun _ _ _ h => h) (Or.inl ⟨by rfl, ?_⟩) ?_ ?_
               rotate_left
               ·intro w'
                go_simp
                with_reducible rfl
               rotate_left
               ·simp only [Act.put, List.setIfInBounds_toArray, List.set_cons_zero, List.set_cons_succ, i64_w, i32_w]
                rfl
               refine done_ (done_of HT_.out (by kernel_rfl)) ?_
               have hcz33_0 : w32.cell? ⟨gb141, 0, none⟩ = some (.int .i64 a0_0) := (blk_cell BK141.out 0).trans rfl
               have hcz33_1 : w32.cell? ⟨gb141, 1, none⟩ = some (.int .i64 a0_1) := (blk_cell BK141.out 1).trans rfl
               have hcz33_2 : w32.cell? ⟨gb141, 2, none⟩ = some (.int .i64 a0_2) := (blk_cell BK141.out 2).trans rfl
               have hcz33_3 : w32.cell? ⟨gb141, 3, none⟩ = some (.int .i64 a0_3) := (blk_cell BK141.out 3).trans rfl
               have hcz33_4 : w32.cell? ⟨gb141, 4, none⟩ = some (.int .i64 a0_4) := (blk_cell BK141.out 4).trans rfl
               have hcz33_5 : w32.cell? ⟨gb141, 5, none⟩ = some (.int .i64 a0_5) := (blk_cell BK141.out 5).trans rfl
               have hcz33_6 : w32.cell? ⟨gb141, 6, none⟩ = some (.bool true) := (blk_cell BK141.out 6).trans rfl
               have hcz33_7 : w32.cell? ⟨gb141, 7, none⟩ = some (.int .i64 a0_7) := (blk_cell BK141.out 7).trans rfl
               have hfz33_0 := blk_frozen BK141.out 0
               have hfz33_1 := blk_frozen BK141.out 1
               have hfz33_2 := blk_frozen BK141.out 2
               have hfz33_3 := blk_frozen BK141.out 3
               have hfz33_4 := blk_frozen BK141.out 4
               have hfz33_5 := blk_frozen BK141.out 5
               have hfz33_6 := blk_frozen BK141.out 6
               have hfz33_7 := blk_frozen BK141.out 7
               try go_wp2
               go_ret
               exact ⟨by first | rfl | (simp [*] <;> rfl), by repeat (first | (with_reducible first | exact HB.out | apply below_alloc | apply pw_below_drewN | apply below_drew1 | refine below_set ?_ GE141.out) | exact HB.out)⟩
              ·rw [if_neg c22] at H
               exact absurd H (by simp)
             ·rw [if_neg c21] at H
              have c21b0 : (a0_7 == 0) = false := beq_eq_false_iff_ne.mpr c21
              have c21b1 : (a0_7 != 0) = true := bne_iff_ne.mpr c21
              by_cases c34 : a0_7 < 0
              ·rw [if_pos c34] at H
               have c34b0 : decide (a0_7 < 0) = true := decide_eq_true c34
               clear c34
               by_cases c35 : t143.size + 1 + t144.size + 1 + t145.size + 1 + t146.size + 1 + t147.size + 1 + t148.size + 1 ≤ 9223372036854775807
               ·rw [if_pos c35] at H
                have c35b0 := eq_true c35
                have c35b1 : decide (t143.size + 1 + t144.size + 1 + t145.size + 1 + t146.size + 1 + t147.size + 1 + t148.size + 1 ≤ 9223372036854775807) = true := decide_eq_true c35
                try have c35b2 : (9223372036854775807 < t143.size + 1 + t144.size + 1 + t145.size + 1 + t146.size + 1 + t147.size + 1 + t148.size + 1) = False := eq_false (Nat.not_lt.2 c35)
                obtain ⟨ji36, hji36⟩ : ∃ j_ : Int, (mx a0_7 (wrap64 (-a0_7))) = j_ := ⟨_, rfl⟩
                replace H : ((impl_padded.f (wrap64 (Int.tdiv (ji36) 60)) 2).bind fun t149 => (if t143.size + 1 + t144.size + 1 + t145.size + 1 + t146.size + 1 + t147.size + 1 + t148.size + 1 + t149.size ≤ 9223372036854775807 then (if t143.size + 1 + t144.size + 1 + t145.size + 1 + t146.size + 1 + t147.size + 1 + t148.size + 1 + t149.size + 1 ≤ 9223372036854775807 then ((impl_padded.f (Int.tmod (ji36) 60) 2).bind fun t150 => (if t143.size + 1 + t144.size + 1 + t145.size + 1 + t146.size + 1 + t147.size + 1 + t148.size + 1 + t149.size + 1 + t150.size ≤ 9223372036854775807 then (some ((((((((((((((t143 ++ (⟨#[45]⟩ : ByteArray)) ++ t144) ++ (⟨#[45]⟩ : ByteArray)) ++ t145) ++ (⟨#[84]⟩ : ByteArray)) ++ t146) ++ (⟨#[58]⟩ : ByteArray)) ++ t147) ++ (⟨#[58]⟩ : ByteArray)) ++ t148) ++ (⟨#[45]⟩ : ByteArray)) ++ t149) ++ (⟨#[58]⟩ : ByteArray)) ++ t150)) else (none))) else (none)) else (none))) = some r := by first | (rw [hji36] at H; exact H) | (simp only [hji36] at H ⊢; exact H)
                (try rw [hji36] at A2)
                (try rw [hji36] at A4)
                (try rw [hji36] at A6)
                (try rw [hji36] at A9)
                (try rw [hji36] at A12)
                (try rw [hji36] at A15)
                (try rw [hji36] at A18)
                have hji36_ : (if a0_7 < (wrap64 (-a0_7)) then (wrap64 (-a0_7)) else a0_7) = ji36 := hji36
                replace H := Option.bind_eq_some_iff.mp H
                obtain ⟨t149, A370, H⟩ := H
                replace H : (if t143.size + 1 + t144.size + 1 + t145.size + 1 + t146.size + 1 + t147.size + 1 + t148.size + 1 + t149.size ≤ 9223372036854775807 then (if t143.size + 1 + t144.size + 1 + t145.size + 1 + t146.size + 1 + t147.size + 1 + t148.size + 1 + t149.size + 1 ≤ 9223372036854775807 then ((impl_padded.f (Int.tmod (ji36) 60) 2).bind fun t150 => (if t143.size + 1 + t144.size + 1 + t145.size + 1 + t146.size + 1 + t147.size + 1 + t148.size + 1 + t149.size + 1 + t150.size ≤ 9223372036854775807 then (some ((((((((((((((t143 ++ (⟨#[45]⟩ : ByteArray)) ++ t144) ++ (⟨#[45]⟩ : ByteArray)) ++ t145) ++ (⟨#[84]⟩ : ByteArray)) ++ t146) ++ (⟨#[58]⟩ : ByteArray)) ++ t147) ++ (⟨#[58]⟩ : ByteArray)) ++ t148) ++ (⟨#[45]⟩ : ByteArray)) ++ t149) ++ (⟨#[58]⟩ : ByteArray)) ++ t150)) else (none))) else (none)) else (none)) = some r := H
                have A37 := Aside0.mk A370
                clear A370
                by_cases c38 : t143.size + 1 + t144.size + 1 + t145.size + 1 + t146.size + 1 + t147.size + 1 + t148.size + 1 + t149.size ≤ 9223372036854775807
                ·rw [if_pos c38] at H
                 have c38b0 := eq_true c38
                 have c38b1 : decide (t143.size + 1 + t144.size + 1 + t145.size + 1 + t146.size + 1 + t147.size + 1 + t148.size + 1 + t149.size ≤ 9223372036854775807) = true := decide_eq_true c38
                 try have c38b2 : (9223372036854775807 < t143.size + 1 + t144.size + 1 + t145.size + 1 + t146.size + 1 + t147.size + 1 + t148.size + 1 + t149.size) = False := eq_false (Nat.not_lt.2 c38)
                 by_cases c39 : t143.size + 1 + t144.size + 1 + t145.size + 1 + t146.size + 1 + t147.size + 1 + t148.size + 1 + t149.size + 1 ≤ 9223372036854775807
                 ·rw [if_pos c39] at H
                  have c39b0 := eq_true c39
                  have c39b1 : decide (t143.size + 1 + t144.size + 1 + t145.size + 1 + t146.size + 1 + t147.size + 1 + t148.size + 1 + t149.size + 1 ≤ 9223372036854775807) = true := decide_eq_true c39
                  try have c39b2 : (9223372036854775807 < t143.size + 1 + t144.size + 1 + t145.size + 1 + t146.size + 1 + t147.size + 1 + t148.size + 1 + t149.size + 1) = False := eq_false (Nat.not_lt.2 c39)
                  replace H := Option.bind_eq_some_iff.mp H
                  obtain ⟨t150, A400, H⟩ := H
                  replace H : (if t143.size + 1 + t144.size + 1 + t145.size + 1 + t146.size + 1 + t147.size + 1 + t148.size + 1 + t149.size + 1 + t150.size ≤ 9223372036854775807 then (some ((((((((((((((t143 ++ (⟨#[45]⟩ : ByteArray)) ++ t144) ++ (⟨#[45]⟩ : ByteArray)) ++ t145) ++ (⟨#[84]⟩ : ByteArray)) ++ t146) ++ (⟨#[58]⟩ : ByteArray)) ++ t147) ++ (⟨#[58]⟩ : ByteArray)) ++ t148) ++ (⟨#[45]⟩ : ByteArray)) ++ t149) ++ (⟨#[58]⟩ : ByteArray)) ++ t150)) else (none)) = some r := H
                  have A40 := Aside0.mk A400
                  clear A400
                  by_cases c41 : t143.size + 1 + t144.size + 1 + t145.size + 1 + t146.size + 1 + t147.size + 1 + t148.size + 1 + t149.size + 1 + t150.size ≤ 9223372036854775807
                  ·rw [if_pos c41] at H
                   have c41b0 := eq_true c41
                   have c41b1 : decide (t143.size + 1 + t144.size + 1 + t145.size + 1 + t146.size + 1 + t147.size + 1 + t148.size + 1 + t149.size + 1 + t150.size ≤ 9223372036854775807) = true := decide_eq_true c41
                   try have c41b2 : (9223372036854775807 < t143.size + 1 + t144.size + 1 + t145.size + 1 + t146.size + 1 + t147.size + 1 + t148.size + 1 + t149.size + 1 + t150.size) = False := eq_false (Nat.not_lt.2 c41)
                   obtain rfl := Option.some.inj H
                   go_enter Tryd.func10, Tryd.ntmps10
                   try go_wp2_with (first | ((with_reducible refine gate_dst (N := 1) rfl ?_); refine box_event ?hg (N := 1) ?hd (cs := #[.int .i64 a0_0, .int .i64 a0_1, .int .i64 a0_2, .int .i64 a0_3, .int .i64 a0_4, .int .i64 a0_5, .bool true, .int .i64 a0_7]) (t := 23) ?hr ?_; (case hd => rfl); (case hg => rfl); (case hr => first | (go_simp; done) | (go_simp; rfl)); intro gb141 hg w42 hbox hb; have n0_ := Aside0.mk (below_step (by repeat (first | (with_reducible first | exact HB.out | apply below_alloc | apply pw_below_drewN | apply below_drew1) | exact HB.out)) hb); have n1_ := Aside0.mk (hbox); have n2_ := Aside0.mk ((by rw [hg]; exact (below_size (by repeat (first | (with_reducible first | exact HB.out | apply below_alloc | apply pw_below_drewN | apply below_drew1) | exact HB.out))) : w.heap.size ≤ gb141)); have n3_ := Aside0.mk ((by rw [hg]; exact (below_size (by repeat (first | (with_reducible first | exact HB.out | apply below_alloc | apply pw_below_drewN | apply below_drew1) | exact HB.out))) : w.heap.size ≤ gb141)); clear HB; have HB := n0_; have BK141 := n1_; have GW141 := n2_; have GE141 := n3_; clear n0_ n1_ n2_ n3_; clear hb hbox hg; have hcz43_0 : w42.cell? ⟨gb141, 0, none⟩ = some (.int .i64 a0_0) := (blk_cell BK141.out 0).trans rfl; have hcz43_1 : w42.cell? ⟨gb141, 1, none⟩ = some (.int .i64 a0_1) := (blk_cell BK141.out 1).trans rfl; have hcz43_2 : w42.cell? ⟨gb141, 2, none⟩ = some (.int .i64 a0_2) := (blk_cell BK141.out 2).trans rfl; have hcz43_3 : w42.cell? ⟨gb141, 3, none⟩ = some (.int .i64 a0_3) := (blk_cell BK141.out 3).trans rfl; have hcz43_4 : w42.cell? ⟨gb141, 4, none⟩ = some (.int .i64 a0_4) := (blk_cell BK141.out 4).trans rfl; have hcz43_5 : w42.cell? ⟨gb141, 5, none⟩ = some (.int .i64 a0_5) := (blk_cell BK141.out 5).trans rfl; have hcz43_6 : w42.cell? ⟨gb141, 6, none⟩ = some (.bool true) := (blk_cell BK141.out 6).trans rfl; have hcz43_7 : w42.cell? ⟨gb141, 7, none⟩ = some (.int .i64 a0_7) := (blk_cell BK141.out 7).trans rfl; have hfz43_0 := blk_frozen BK141.out 0; have hfz43_1 := blk_frozen BK141.out 1; have hfz43_2 := blk_frozen BK141.out 2; have hfz43_3 := blk_frozen BK141.out 3; have hfz43_4 := blk_frozen BK141.out 4; have hfz43_5 := blk_frozen BK141.out 5; have hfz43_6 := blk_frozen BK141.out 6; have hfz43_7 := blk_frozen BK141.out 7) | ((with_reducible refine gate_callee (f := 16) rfl ?_); refine goesL_ (some 6) rfl rfl Tryd.func16 (by kernel_rfl) rfl #[.agg #[.int .i64 a0_0, .int .i64 a0_1, .int .i64 a0_2, .int .i64 a0_3, .int .i64 a0_4, .int .i64 a0_5, .bool true, .int .i64 a0_7]] rfl (by (try simp only [List.map_toArray, List.map_cons, List.map_nil]); first | done | rfl | (simp only [List.length_drop, List.length_take]; rfl)) ?_; (with_reducible refine (impl_DateOk.calls a0_0 a0_1 a0_2 a0_3 a0_4 a0_5 true a0_7 true _ A2.out).mono ?_); rintro e w44 ⟨rfl, hb⟩; refine ⟨_, rfl, ?_⟩; have n0_ := Aside0.mk (blk_below (g := gb141) (o := .cells #[.int .i64 a0_0, .int .i64 a0_1, .int .i64 a0_2, .int .i64 a0_3, .int .i64 a0_4, .int .i64 a0_5, .bool true, .int .i64 a0_7] 23 (0, 0)) (by (with_reducible repeat (first | refine blk_drewN ?_ _ | refine blk_drew ?_ | refine blk_alloc ?_ _)); exact BK141.out) hb); have n1_ := Aside0.mk (below_step (by repeat (first | (with_reducible first | exact HB.out | apply below_alloc | apply pw_below_drewN | apply below_drew1 | refine below_set ?_ GE141.out) | exact HB.out)) hb); clear BK141; clear HB; have BK141 := n0_; have HB := n1_; clear n0_ n1_; (try clear hb); (try clear hb2); (try clear hk); (try clear hi)))
                   have n0_ := Aside0.mk (blk_drew BK141.out)
                   have n1_ := Aside0.mk (below_drew1 HB.out)
                   clear BK141
                   clear HB
                   have BK141 := n0_
                   have HB := n1_
                   clear n0_ n1_
                   refine start_ (n := 29) (S := fun w' => w'.cell? ⟨gb141, 0, none⟩ = some (.int .i64 a0_0) ∧ w'.cell? ⟨gb141, 1, none⟩ = some (.int .i64 a0_1) ∧ w'.cell? ⟨gb141, 2, none⟩ = some (.int .i64 a0_2) ∧ w'.cell? ⟨gb141, 3, none⟩ = some (.int .i64 a0_3) ∧ w'.cell? ⟨gb141, 4, none⟩ = some (.int .i64 a0_4) ∧ w'.cell? ⟨gb141, 5, none⟩ = some (.int .i64 a0_5) ∧ w'.cell? ⟨gb141, 6, none⟩ = some (.bool true) ∧ w'.cell? ⟨gb141, 7, none⟩ = some (.int .i64 a0_7)) (ds := []) #[false, false, false, false, false, false, false, false, false, false, false, false, false, false, false, false, false, false, false, false, false, false, false, false, false, false, false, false, false] (by kernel_rfl) rfl rfl ⟨(blk_cell BK141.out 0).trans rfl, (blk_cell BK141.out 1).trans rfl, (blk_cell BK141.out 2).trans rfl, (blk_cell BK141.out 3).trans rfl, (blk_cell BK141.out 4).trans rfl, (blk_cell BK141.out 5).trans rfl, (blk_cell BK141.out 6).trans rfl, (blk_cell BK141.out 7).trans rfl⟩ (fun hHeld => ?_); refine with_tabW impl_DateText.tab3 impl_DateText.bits3 (fun HT_ HW_ => ?_)
                   generalize w44.drew = w45 at BK141 HB hHeld ⊢
                   refine pure_ (i := 0) (N := some 8) (v := ?_) (a' := ?_) #[true, false, false, false, false, false, false, false, false, false, false, false, false, false, false, false, false, false, false, false, false, false, false, false, false, false, false, false, false] rfl rfl (any_of HT_.out (by kernel_rfl)) (fun _ _ _ h => h) (Or.inl ⟨by rfl, ?_⟩) ?_ ?_
                   rotate_left
                   ·intro w'
                    go_simp
                    with_reducible rfl
                   rotate_left
                   ·simp only [Act.put, List.setIfInBounds_toArray, List.set_cons_zero, List.set_cons_succ, i64_w, i32_w]
                    rfl
                   refine pure_ (i := 4) (N := some 12) (v := ?_) (a' := ?_) #[true, false, false, false, true, false, false, false, false, false, false, false, false, false, false, false, false, false, false, false, false, false, false, false, false, false, false, false, false] rfl rfl (any_of HT_.out (by kernel_rfl)) (fun _ _ _ h => h) (Or.inl ⟨by rfl, ?_⟩) ?_ ?_
                   rotate_left
                   ·intro w'
                    go_simp
                    with_reducible rfl
                   rotate_left
                   ·simp only [Act.put, List.setIfInBounds_toArray, List.set_cons_zero, List.set_cons_succ, i64_w, i32_w]
                    rfl
                   refine pure_ (i := 9) (N := some 17) (v := ?_) (a' := ?_) #[true, false, false, false, true, false, false, false, false, true, false, false, false, false, false, false, false, false, false, false, false, false, false, false, false, false, false, false, false] rfl rfl (any_of HT_.out (by kernel_rfl)) (fun _ _ _ h => h) (Or.inl ⟨by rfl, ?_⟩) ?_ ?_
                   rotate_left
                   ·intro w'
                    go_simp
                    with_reducible rfl
                   rotate_left
                   ·simp only [Act.put, List.setIfInBounds_toArray, List.set_cons_zero, List.set_cons_succ, i64_w, i32_w]
                    rfl
                   refine pure_ (i := 14) (N := some 22) (v := ?_) (a' := ?_) #[true, false, false, false, true, false, false, false, false, true, false, false, false, false, true, false, false, false, false, false, false, false, false, false, false, false, false, false, false] rfl rfl (any_of HT_.out (by kernel_rfl)) (fun _ _ _ h => h) (Or.inl ⟨by rfl, ?_⟩) ?_ ?_
                   rotate_left
                   ·intro w'
                    go_simp
                    with_reducible rfl
                   rotate_left
                   ·simp only [Act.put, List.setIfInBounds_toArray, List.set_cons_zero, List.set_cons_succ, i64_w, i32_w]
                    rfl
                   refine pure_ (i := 19) (N := some 27) (v := ?_) (a' := ?_) #[true, false, false, false, true, false, false, false, false, true, false, false, false, false, true, false, false, false, false, true, false, false, false, false, false, false, false, false, false] rfl rfl (any_of HT_.out (by kernel_rfl)) (fun _ _ _ h => h) (Or.inl ⟨by rfl, ?_⟩) ?_ ?_
                   rotate_left
                   ·intro w'
                    go_simp
                    with_reducible rfl
                   rotate_left
                   ·simp only [Act.put, List.setIfInBounds_toArray, List.set_cons_zero, List.set_cons_succ, i64_w, i32_w]
                    rfl
                   refine pure_ (i := 24) (N := some 32) (v := ?_) (a' := ?_) #[true, false, false, false, true, false, false, false, false, true, false, false, false, false, true, false, false, false, false, true, false, false, false, false, true, false, false, false, false] rfl rfl (any_of HT_.out (by kernel_rfl)) (fun _ _ _ h => h) (Or.inl ⟨by rfl, ?_⟩) ?_ ?_
                   rotate_left
                   ·intro w'
                    go_simp
                    with_reducible rfl
                   rotate_left
                   ·simp only [Act.put, List.setIfInBounds_toArray, List.set_cons_zero, List.set_cons_succ, i64_w, i32_w]
                    rfl
                   refine take_ (i := 1) (N := some 9) (v := ?_) (a' := ?_) #[true, true, false, false, true, false, false, false, false, true, false, false, false, false, true, false, false, false, false, true, false, false, false, false, true, false, false, false, false] rfl rfl (take_ofW HT_.out HW_.out (by kernel_rfl)) (fun _ _ _ h => h) (Or.inl ⟨by rfl, ?_⟩) hHeld ?_ ?_
                   rotate_left
                   ·rintro w' ⟨s0, s1, s2, s3, s4, s5, s6, s7⟩
                    go_simp
                    with_reducible rfl
                   rotate_left
                   ·simp only [Act.put, List.setIfInBounds_toArray, List.set_cons_zero, List.set_cons_succ, i64_w, i32_w]
                    rfl
                   refine take_ (i := 5) (N := some 13) (v := ?_) (a' := ?_) #[true, true, false, false, true, true, false, false, false, true, false, false, false, false, true, false, false, false, false, true, false, false, false, false, true, false, false, false, false] rfl rfl (take_ofW HT_.out HW_.out (by kernel_rfl)) (fun _ _ _ h => h) (Or.inl ⟨by rfl, ?_⟩) hHeld ?_ ?_
                   rotate_left
                   ·rintro w' ⟨s0, s1, s2, s3, s4, s5, s6, s7⟩
                    go_simp
                    with_reducible rfl
                   rotate_left
                   ·simp only [Act.put, List.setIfInBounds_toArray, List.set_cons_zero, List.set_cons_succ, i64_w, i32_w]
                    rfl
                   refine take_ (i := 10) (N := some 18) (v := ?_) (a' := ?_) #[true, true, false, false, true, true, false, false, false, true, true, false, false, false, true, false, false, false, false, true, false, false, false, false, true, false, false, false, false] rfl rfl (take_ofW HT_.out HW_.out (by kernel_rfl)) (fun _ _ _ h => h) (Or.inl ⟨by rfl, ?_⟩) hHeld ?_ ?_
                   rotate_left
                   ·rintro w' ⟨s0, s1, s2, s3, s4, s5, s6, s7⟩
                    go_simp
                    with_reducible rfl
                   rotate_left
                   ·simp only [Act.put, List.setIfInBounds_toArray, List.set_cons_zero, List.set_cons_succ, i64_w, i32_w]
                    rfl
                   refine take_ (i := 15) (N := some 23) (v := ?_) (a' := ?_) #[true, true, false, false, true, true, false, false, false, true, true, false, false, false, true, true, false, false, false, true, false, false, false, false, true, false, false, false, false] rfl rfl (take_ofW HT_.out HW_.out (by kernel_rfl)) (fun _ _ _ h => h) (Or.inl ⟨by rfl, ?_⟩) hHeld ?_ ?_
                   rotate_left
                   ·rintro w' ⟨s0, s1, s2, s3, s4, s5, s6, s7⟩
                    go_simp
                    with_reducible rfl
                   rotate_left
                   ·simp only [Act.put, List.setIfInBounds_toArray, List.set_cons_zero, List.set_cons_succ, i64_w, i32_w]
                    rfl
                   refine take_ (i := 20) (N := some 28) (v := ?_) (a' := ?_) #[true, true, false, false, true, true, false, false, false, true, true, false, false, false, true, true, false, false, false, true, true, false, false, false, true, false, false, false, false] rfl rfl (take_ofW HT_.out HW_.out (by kernel_rfl)) (fun _ _ _ h => h) (Or.inl ⟨by rfl, ?_⟩) hHeld ?_ ?_
                   rotate_left
                   ·rintro w' ⟨s0, s1, s2, s3, s4, s5, s6, s7⟩
                    go_simp
                    with_reducible rfl
                   rotate_left
                   ·simp only [Act.put, List.setIfInBounds_toArray, List.set_cons_zero, List.set_cons_succ, i64_w, i32_w]
                    rfl
                   refine take_ (i := 25) (N := some 33) (v := ?_) (a' := ?_) #[true, true, false, false, true, true, false, false, false, true, true, false, false, false, true, true, false, false, false, true, true, false, false, false, true, true, false, false, false] rfl rfl (take_ofW HT_.out HW_.out (by kernel_rfl)) (fun _ _ _ h => h) (Or.inl ⟨by rfl, ?_⟩) hHeld ?_ ?_
                   rotate_left
                   ·rintro w' ⟨s0, s1, s2, s3, s4, s5, s6, s7⟩
                    go_simp
                    with_reducible rfl
                   rotate_left
                   ·simp only [Act.put, List.setIfInBounds_toArray, List.set_cons_zero, List.set_cons_succ, i64_w, i32_w]
                    rfl
                   refine one_ (i := 2) (N := some 10) #[true, true, true, false, true, true, false, false, false, true, true, false, false, false, true, true, false, false, false, true, true, false, false, false, true, true, false, false, false] rfl rfl (one_of HT_.out (by kernel_rfl)) (by decide) (fun K hK => ?_)
                   refine goes_ Tryd.func18 (by kernel_rfl) rfl #[.int .i64 a0_0, .int .i64 4] (by rfl) rfl rfl (by (try simp only [List.map_toArray, List.map_cons, List.map_nil]); first | done | rfl | (simp only [List.length_drop, List.length_take]; rfl)) ?_
                   with_reducible refine (impl_padded.calls a0_0 4 t143 _ ?side1 A4.out).mono ?_
                   (case side1 => exact GL.below HGL.out (by repeat (first | (with_reducible first | exact HB.out | apply below_alloc | apply pw_below_drewN | apply below_drew1 | refine below_set ?_ GE141.out) | exact HB.out)))
                   rintro e w46 ⟨rfl, hb⟩
                   refine ⟨_, rfl, ?_⟩
                   have n0_ := Aside0.mk (blk_below (g := gb141) (o := .cells #[.int .i64 a0_0, .int .i64 a0_1, .int .i64 a0_2, .int .i64 a0_3, .int .i64 a0_4, .int .i64 a0_5, .bool true, .int .i64 a0_7] 23 (0, 0)) (by (with_reducible repeat (first | refine blk_drewN ?_ _ | refine blk_drew ?_ | refine blk_alloc ?_ _)); exact BK141.out) hb)
                   have n1_ := Aside0.mk (below_step (by repeat (first | (with_reducible first | exact HB.out | apply below_alloc | apply pw_below_drewN | apply below_drew1 | refine below_set ?_ GE141.out) | exact HB.out)) hb)
                   clear BK141
                   clear HB
                   have BK141 := n0_
                   have HB := n1_
                   clear n0_ n1_
                   (try clear hb)
                   (try clear hb2)
                   (try clear hk)
                   (try clear hi)
                   refine hK.out _ _ ⟨(blk_cell BK141.out 0).trans rfl, (blk_cell BK141.out 1).trans rfl, (blk_cell BK141.out 2).trans rfl, (blk_cell BK141.out 3).trans rfl, (blk_cell BK141.out 4).trans rfl, (blk_cell BK141.out 5).trans rfl, (blk_cell BK141.out 6).trans rfl, (blk_cell BK141.out 7).trans rfl⟩ (fun hHeld => ?_)
                   clear hK K
                   refine norm_ (a' := ?_) ?_ ?_
                   rotate_left
                   ·show Act.put _ (some 10) _ = _
                    simp only [Act.put, List.setIfInBounds_toArray, List.set_cons_zero, List.set_cons_succ, i64_w, i32_w]
                    rfl
                   refine pure_ (i := 3) (N := some 11) (v := ?_) (a' := ?_) #[true, true, true, true, true, true, false, false, false, true, true, false, false, false, true, true, false, false, false, true, true, false, false, false, true, true, false, false, false] rfl rfl (any_of HT_.out (by kernel_rfl)) (fun _ _ _ h => h) (Or.inl ⟨by rfl, ?_⟩) ?_ ?_
                   rotate_left
                   ·intro w'
                    go_simp
                    with_reducible rfl
                   rotate_left
                   ·simp only [Act.put, List.setIfInBounds_toArray, List.set_cons_zero, List.set_cons_succ, i64_w, i32_w]
                    rfl
                   refine one_ (i := 6) (N := some 14) #[true, true, true, true, true, true, true, false, false, true, true, false, false, false, true, true, false, false, false, true, true, false, false, false, true, true, false, false, false] rfl rfl (one_of HT_.out (by kernel_rfl)) (by decide) (fun K hK => ?_)
                   refine goes_ Tryd.func18 (by kernel_rfl) rfl #[.int .i64 a0_1, .int .i64 2] (by rfl) rfl rfl (by (try simp only [List.map_toArray, List.map_cons, List.map_nil]); first | done | rfl | (simp only [List.length_drop, List.length_take]; rfl)) ?_
                   with_reducible refine (impl_padded.calls a0_1 2 t144 _ ?side1 A6.out).mono ?_
                   (case side1 => exact GL.below HGL.out (by repeat (first | (with_reducible first | exact HB.out | apply below_alloc | apply pw_below_drewN | apply below_drew1 | refine below_set ?_ GE141.out) | exact HB.out)))
                   rintro e w47 ⟨rfl, hb⟩
                   refine ⟨_, rfl, ?_⟩
                   have n0_ := Aside0.mk (blk_below (g := gb141) (o := .cells #[.int .i64 a0_0, .int .i64 a0_1, .int .i64 a0_2, .int .i64 a0_3, .int .i64 a0_4, .int .i64 a0_5, .bool true, .int .i64 a0_7] 23 (0, 0)) (by (with_reducible repeat (first | refine blk_drewN ?_ _ | refine blk_drew ?_ | refine blk_alloc ?_ _)); exact BK141.out) hb)
                   have n1_ := Aside0.mk (below_step (by repeat (first | (with_reducible first | exact HB.out | apply below_alloc | apply pw_below_drewN | apply below_drew1 | refine below_set ?_ GE141.out) | exact HB.out)) hb)
                   clear BK141
                   clear HB
                   have BK141 := n0_
                   have HB := n1_
                   clear n0_ n1_
                   (try clear hb)
                   (try clear hb2)
                   (try clear hk)
                   (try clear hi)
                   refine hK.out _ _ ⟨(blk_cell BK141.out 0).trans rfl, (blk_cell BK141.out 1).trans rfl, (blk_cell BK141.out 2).trans rfl, (blk_cell BK141.out 3).trans rfl, (blk_cell BK141.out 4).trans rfl, (blk_cell BK141.out 5).trans rfl, (blk_cell BK141.out 6).trans rfl, (blk_cell BK141.out 7).trans rfl⟩ (fun hHeld => ?_)
                   clear hK K
                   refine norm_ (a' := ?_) ?_ ?_
                   rotate_left
                   ·show Act.put _ (some 14) _ = _
                    simp only [Act.put, List.setIfInBounds_toArray, List.set_cons_zero, List.set_cons_succ, i64_w, i32_w]
                    rfl
                   refine pure_ (i := 7) (N := some 15) (v := ?_) (a' := ?_) #[true, true, true, true, true, true, true, true, false, true, true, false, false, false, true, true, false, false, false, true, true, false, false, false, true, true, false, false, false] rfl rfl (any_of HT_.out (by kernel_rfl)) (fun _ _ _ h => h) (Or.inl ⟨by rfl, ?_⟩) ?_ ?_
                   rotate_left
                   ·intro w'
                    go_simp
                    with_reducible rfl
                   rotate_left
                   ·simp only [Act.put, List.setIfInBounds_toArray, List.set_cons_zero, List.set_cons_succ, i64_w, i32_w]
                    rfl
                   refine pure_ (i := 8) (N := some 16) (v := ?_) (a' := ?_) #[true, true, true, true, true, true, true, true, true, true, true, false, false, false, true, true, false, false, false, true, true, false, false, false, true, true, false, false, false] rfl rfl (any_of HT_.out (by kernel_rfl)) (fun _ _ _ h => h) (Or.inl ⟨by rfl, ?_⟩) ?_ ?_
                   rotate_left
                   ·intro w'
                    go_simp
                    with_reducible rfl
                   rotate_left
                   ·simp only [Act.put, List.setIfInBounds_toArray, List.set_cons_zero, List.set_cons_succ, i64_w, i32_w]
                    rfl
                   refine one_ (i := 11) (N := some 19) #[true, true, true, true, true, true, true, true, true, true, true, true, false, false, true, true, false, false, false, true, true, false, false, false, true, true, false, false, false] rfl rfl (one_of HT_.out (by kernel_rfl)) (by decide) (fun K hK => ?_)
                   refine goes_ Tryd.func18 (by kernel_rfl) rfl #[.int .i64 a0_2, .int .i64 2] (by rfl) rfl rfl (by (try simp only [List.map_toArray, List.map_cons, List.map_nil]); first | done | rfl | (simp only [List.length_drop, List.length_take]; rfl)) ?_
                   with_reducible refine (impl_padded.calls a0_2 2 t145 _ ?side1 A9.out).mono ?_
                   (case side1 => exact GL.below HGL.out (by repeat (first | (with_reducible first | exact HB.out | apply below_alloc | apply pw_below_drewN | apply below_drew1 | refine below_set ?_ GE141.out) | exact HB.out)))
                   rintro e w48 ⟨rfl, hb⟩
                   refine ⟨_, rfl, ?_⟩
                   have n0_ := Aside0.mk (blk_below (g := gb141) (o := .cells #[.int .i64 a0_0, .int .i64 a0_1, .int .i64 a0_2, .int .i64 a0_3, .int .i64 a0_4, .int .i64 a0_5, .bool true, .int .i64 a0_7] 23 (0, 0)) (by (with_reducible repeat (first | refine blk_drewN ?_ _ | refine blk_drew ?_ | refine blk_alloc ?_ _)); exact BK141.out) hb)
                   have n1_ := Aside0.mk (below_step (by repeat (first | (with_reducible first | exact HB.out | apply below_alloc | apply pw_below_drewN | apply below_drew1 | refine below_set ?_ GE141.out) | exact HB.out)) hb)
                   clear BK141
                   clear HB
                   have BK141 := n0_
                   have HB := n1_
                   clear n0_ n1_
                   (try clear hb)
                   (try clear hb2)
                   (try clear hk)
                   (try clear hi)
                   refine hK.out _ _ ⟨(blk_cell BK141.out 0).trans rfl, (blk_cell BK141.out 1).trans rfl, (blk_cell BK141.out 2).trans rfl, (blk_cell BK141.out 3).trans rfl, (blk_cell BK141.out 4).trans rfl, (blk_cell BK141.out 5).trans rfl, (blk_cell BK141.out 6).trans rfl, (blk_cell BK141.out 7).trans rfl⟩ (fun hHeld => ?_)
                   clear hK K
                   refine norm_ (a' := ?_) ?_ ?_
                   rotate_left
                   ·show Act.put _ (some 19) _ = _
                    simp only [Act.put, List.setIfInBounds_toArray, List.set_cons_zero, List.set_cons_succ, i64_w, i32_w]
                    rfl
                   refine pure_ (i := 12) (N := some 20) (v := ?_) (a' := ?_) #[true, true, true, true, true, true, true, true, true, true, true, true, true, false, true, true, false, false, false, true, true, false, false, false, true, true, false, false, false] rfl rfl (any_of HT_.out (by kernel_rfl)) (fun _ _ _ h => h) (Or.inl ⟨by rfl, ?_⟩) ?_ ?_
                   rotate_left
                   ·intro w'
                    go_simp
                    with_reducible rfl
                   rotate_left
                   ·simp only [Act.put, List.setIfInBounds_toArray, List.set_cons_zero, List.set_cons_succ, i64_w, i32_w]
                    rfl
                   refine pure_ (i := 13) (N := some 21) (v := ?_) (a' := ?_) #[true, true, true, true, true, true, true, true, true, true, true, true, true, true, true, true, false, false, false, true, true, false, false, false, true, true, false, false, false] rfl rfl (any_of HT_.out (by kernel_rfl)) (fun _ _ _ h => h) (Or.inl ⟨by rfl, ?_⟩) ?_ ?_
                   rotate_left
                   ·intro w'
                    go_simp
                    with_reducible rfl
                   rotate_left
                   ·simp only [Act.put, List.setIfInBounds_toArray, List.set_cons_zero, List.set_cons_succ, i64_w, i32_w]
                    rfl
                   refine one_ (i := 16) (N := some 24) #[true, true, true, true, true, true, true, true, true, true, true, true, true, true, true, true, true, false, false, true, true, false, false, false, true, true, false, false, false] rfl rfl (one_of HT_.out (by kernel_rfl)) (by decide) (fun K hK => ?_)
                   refine goes_ Tryd.func18 (by kernel_rfl) rfl #[.int .i64 a0_3, .int .i64 2] (by rfl) rfl rfl (by (try simp only [List.map_toArray, List.map_cons, List.map_nil]); first | done | rfl | (simp only [List.length_drop, List.length_take]; rfl)) ?_
                   with_reducible refine (impl_padded.calls a0_3 2 t146 _ ?side1 A12.out).mono ?_
                   (case side1 => exact GL.below HGL.out (by repeat (first | (with_reducible first | exact HB.out | apply below_alloc | apply pw_below_drewN | apply below_drew1 | refine below_set ?_ GE141.out) | exact HB.out)))
                   rintro e w49 ⟨rfl, hb⟩
                   refine ⟨_, rfl, ?_⟩
                   have n0_ := Aside0.mk (blk_below (g := gb141) (o := .cells #[.int .i64 a0_0, .int .i64 a0_1, .int .i64 a0_2, .int .i64 a0_3, .int .i64 a0_4, .int .i64 a0_5, .bool true, .int .i64 a0_7] 23 (0, 0)) (by (with_reducible repeat (first | refine blk_drewN ?_ _ | refine blk_drew ?_ | refine blk_alloc ?_ _)); exact BK141.out) hb)
                   have n1_ := Aside0.mk (below_step (by repeat (first | (with_reducible first | exact HB.out | apply below_alloc | apply pw_below_drewN | apply below_drew1 | refine below_set ?_ GE141.out) | exact HB.out)) hb)
                   clear BK141
                   clear HB
                   have BK141 := n0_
                   have HB := n1_
                   clear n0_ n1_
                   (try clear hb)
                   (try clear hb2)
                   (try clear hk)
                   (try clear hi)
                   refine hK.out _ _ ⟨(blk_cell BK141.out 0).trans rfl, (blk_cell BK141.out 1).trans rfl, (blk_cell BK141.out 2).trans rfl, (blk_cell BK141.out 3).trans rfl, (blk_cell BK141.out 4).trans rfl, (blk_cell BK141.out 5).trans rfl, (blk_cell BK141.out 6).trans rfl, (blk_cell BK141.out 7).trans rfl⟩ (fun hHeld => ?_)
                   clear hK K
                   refine norm_ (a' := ?_) ?_ ?_
                   rotate_left
                   ·show Act.put _ (some 24) _ = _
                    simp only [Act.put, List.setIfInBounds_toArray, List.set_cons_zero, List.set_cons_succ, i64_w, i32_w]
                    rfl
                   refine pure_ (i := 17) (N := some 25) (v := ?_) (a' := ?_) #[true, true, true, true, true, true, true, true, true, true, true, true, true, true, true, true, true, true, false, true, true, false, false, false, true, true, false, false, false] rfl rfl (any_of HT_.out (by kernel_rfl)) (fun _ _ _ h => h) (Or.inl ⟨by rfl, ?_⟩) ?_ ?_
                   rotate_left
                   ·intro w'
                    go_simp
                    with_reducible rfl
                   rotate_left
                   ·simp only [Act.put, List.setIfInBounds_toArray, List.set_cons_zero, List.set_cons_succ, i64_w, i32_w]
                    rfl
                   refine pure_ (i := 18) (N := some 26) (v := ?_) (a' := ?_) #[true, true, true, true, true, true, true, true, true, true, true, true, true, true, true, true, true, true, true, true, true, false, false, false, true, true, false, false, false] rfl rfl (any_of HT_.out (by kernel_rfl)) (fun _ _ _ h => h) (Or.inl ⟨by rfl, ?_⟩) ?_ ?_
                   rotate_left
                   ·intro w'
                    go_simp
                    with_reducible rfl
                   rotate_left
                   ·simp only [Act.put, List.setIfInBounds_toArray, List.set_cons_zero, List.set_cons_succ, i64_w, i32_w]
                    rfl
                   refine one_ (i := 21) (N := some 29) #[true, true, true, true, true, true, true, true, true, true, true, true, true, true, true, true, true, true, true, true, true, true, false, false, true, true, false, false, false] rfl rfl (one_of HT_.out (by kernel_rfl)) (by decide) (fun K hK => ?_)
                   refine goes_ Tryd.func18 (by kernel_rfl) rfl #[.int .i64 a0_4, .int .i64 2] (by rfl) rfl rfl (by (try simp only [List.map_toArray, List.map_cons, List.map_nil]); first | done | rfl | (simp only [List.length_drop, List.length_take]; rfl)) ?_
                   with_reducible refine (impl_padded.calls a0_4 2 t147 _ ?side1 A15.out).mono ?_
                   (case side1 => exact GL.below HGL.out (by repeat (first | (with_reducible first | exact HB.out | apply below_alloc | apply pw_below_drewN | apply below_drew1 | refine below_set ?_ GE141.out) | exact HB.out)))
                   rintro e w50 ⟨rfl, hb⟩
                   refine ⟨_, rfl, ?_⟩
                   have n0_ := Aside0.mk (blk_below (g := gb141) (o := .cells #[.int .i64 a0_0, .int .i64 a0_1, .int .i64 a0_2, .int .i64 a0_3, .int .i64 a0_4, .int .i64 a0_5, .bool true, .int .i64 a0_7] 23 (0, 0)) (by (with_reducible repeat (first | refine blk_drewN ?_ _ | refine blk_drew ?_ | refine blk_alloc ?_ _)); exact BK141.out) hb)
                   have n1_ := Aside0.mk (below_step (by repeat (first | (with_reducible first | exact HB.out | apply below_alloc | apply pw_below_drewN | apply below_drew1 | refine below_set ?_ GE141.out) | exact HB.out)) hb)
                   clear BK141
                   clear HB
                   have BK141 := n0_
                   have HB := n1_
                   clear n0_ n1_
                   (try clear hb)
                   (try clear hb2)
                   (try clear hk)
                   (try clear hi)
                   refine hK.out _ _ ⟨(blk_cell BK141.out 0).trans rfl, (blk_cell BK141.out 1).trans rfl, (blk_cell BK141.out 2).trans rfl, (blk_cell BK141.out 3).trans rfl, (blk_cell BK141.out 4).trans rfl, (blk_cell BK141.out 5).trans rfl, (blk_cell BK141.out 6).trans rfl, (blk_cell BK141.out 7).trans rfl⟩ (fun hHeld => ?_)
                   clear hK K
                   refine norm_ (a' := ?_) ?_ ?_
                   rotate_left
                   ·show Act.put _ (some 29) _ = _
                    simp only [Act.put, List.setIfInBounds_toArray, List.set_cons_zero, List.set_cons_succ, i64_w, i32_w]
                    rfl
                   refine pure_ (i := 22) (N := some 30) (v := ?_) (a' := ?_) #[true, true, true, true, true, true, true, true, true, true, true, true, true, true, true, true, true, true, true, true, true, true, true, false, true, true, false, false, false] rfl rfl (any_of HT_.out (by kernel_rfl)) (fun _ _ _ h => h) (Or.inl ⟨by rfl, ?_⟩) ?_ ?_
                   rotate_left
                   ·intro w'
                    go_simp
                    with_reducible rfl
                   rotate_left
                   ·simp only [Act.put, List.setIfInBounds_toArray, List.set_cons_zero, List.set_cons_succ, i64_w, i32_w]
                    rfl
                   refine pure_ (i := 23) (N := some 31) (v := ?_) (a' := ?_) #[true, true, true, true, true, true, true, true, true, true, true, true, true, true, true, true, true, true, true, true, true, true, true, true, true, true, false, false, false] rfl rfl (any_of HT_.out (by kernel_rfl)) (fun _ _ _ h => h) (Or.inl ⟨by rfl, ?_⟩) ?_ ?_
                   rotate_left
                   ·intro w'
                    go_simp
                    with_reducible rfl
                   rotate_left
                   ·simp only [Act.put, List.setIfInBounds_toArray, List.set_cons_zero, List.set_cons_succ, i64_w, i32_w]
                    rfl
                   refine one_ (i := 26) (N := some 34) #[true, true, true, true, true, true, true, true, true, true, true, true, true, true, true, true, true, true, true, true, true, true, true, true, true, true, true, false, false] rfl rfl (one_of HT_.out (by kernel_rfl)) (by decide) (fun K hK => ?_)
                   refine goes_ Tryd.func18 (by kernel_rfl) rfl #[.int .i64 a0_5, .int .i64 2] (by rfl) rfl rfl (by (try simp only [List.map_toArray, List.map_cons, List.map_nil]); first | done | rfl | (simp only [List.length_drop, List.length_take]; rfl)) ?_
                   with_reducible refine (impl_padded.calls a0_5 2 t148 _ ?side1 A18.out).mono ?_
                   (case side1 => exact GL.below HGL.out (by repeat (first | (with_reducible first | exact HB.out | apply below_alloc | apply pw_below_drewN | apply below_drew1 | refine below_set ?_ GE141.out) | exact HB.out)))
                   rintro e w51 ⟨rfl, hb⟩
                   refine ⟨_, rfl, ?_⟩
                   have n0_ := Aside0.mk (blk_below (g := gb141) (o := .cells #[.int .i64 a0_0, .int .i64 a0_1, .int .i64 a0_2, .int .i64 a0_3, .int .i64 a0_4, .int .i64 a0_5, .bool true, .int .i64 a0_7] 23 (0, 0)) (by (with_reducible repeat (first | refine blk_drewN ?_ _ | refine blk_drew ?_ | refine blk_alloc ?_ _)); exact BK141.out) hb)
                   have n1_ := Aside0.mk (below_step (by repeat (first | (with_reducible first | exact HB.out | apply below_alloc | apply pw_below_drewN | apply below_drew1 | refine below_set ?_ GE141.out) | exact HB.out)) hb)
                   clear BK141
                   clear HB
                   have BK141 := n0_
                   have HB := n1_
                   clear n0_ n1_
                   (try clear hb)
                   (try clear hb2)
                   (try clear hk)
                   (try clear hi)
                   refine hK.out _ _ ⟨(blk_cell BK141.out 0).trans rfl, (blk_cell BK141.out 1).trans rfl, (blk_cell BK141.out 2).trans rfl, (blk_cell BK141.out 3).trans rfl, (blk_cell BK141.out 4).trans rfl, (blk_cell BK141.out 5).trans rfl, (blk_cell BK141.out 6).trans rfl, (blk_cell BK141.out 7).trans rfl⟩ (fun hHeld => ?_)
                   clear hK K
                   refine norm_ (a' := ?_) ?_ ?_
                   rotate_left
                   ·show Act.put _ (some 34) _ = _
                    simp only [Act.put, List.setIfInBounds_toArray, List.set_cons_zero, List.set_cons_succ, i64_w, i32_w]
                    rfl
                   refine pure_ (i := 27) (N := some 35) (v := ?_) (a' := ?_) #[true, true, true, true, true, true, true, true, true, true, true, true, true, true, true, true, true, true, true, true, true, true, true, true, true, true, true, true, false] rfl rfl (any_of HT_.out (by kernel_rfl)) (fun _ _ _ h => h) (Or.inl ⟨by rfl, ?_⟩) ?_ ?_
                   rotate_left
                   ·intro w'
                    go_simp
                    with_reducible rfl
                   rotate_left
                   ·simp only [Act.put, List.setIfInBounds_toArray, List.set_cons_zero, List.set_cons_succ, i64_w, i32_w]
                    rfl
                   refine pure_ (i := 28) (N := some 3) (v := ?_) (a' := ?_) #[true, true, true, true, true, true, true, true, true, true, true, true, true, true, true, true, true, true, true, true, true, true, true, true, true, true, true, true, true] rfl rfl (any_of HT_.out (by kernel_rfl)) (fun _ _ _ h => h) (Or.inl ⟨by rfl, ?_⟩) ?_ ?_
                   rotate_left
                   ·intro w'
                    go_simp
                    with_reducible rfl
                   rotate_left
                   ·simp only [Act.put, List.setIfInBounds_toArray, List.set_cons_zero, List.set_cons_succ, i64_w, i32_w]
                    rfl
                   refine done_ (done_of HT_.out (by kernel_rfl)) ?_
                   have hcz52_0 : w51.cell? ⟨gb141, 0, none⟩ = some (.int .i64 a0_0) := (blk_cell BK141.out 0).trans rfl
                   have hcz52_1 : w51.cell? ⟨gb141, 1, none⟩ = some (.int .i64 a0_1) := (blk_cell BK141.out 1).trans rfl
                   have hcz52_2 : w51.cell? ⟨gb141, 2, none⟩ = some (.int .i64 a0_2) := (blk_cell BK141.out 2).trans rfl
                   have hcz52_3 : w51.cell? ⟨gb141, 3, none⟩ = some (.int .i64 a0_3) := (blk_cell BK141.out 3).trans rfl
                   have hcz52_4 : w51.cell? ⟨gb141, 4, none⟩ = some (.int .i64 a0_4) := (blk_cell BK141.out 4).trans rfl
                   have hcz52_5 : w51.cell? ⟨gb141, 5, none⟩ = some (.int .i64 a0_5) := (blk_cell BK141.out 5).trans rfl
                   have hcz52_6 : w51.cell? ⟨gb141, 6, none⟩ = some (.bool true) := (blk_cell BK141.out 6).trans rfl
                   have hcz52_7 : w51.cell? ⟨gb141, 7, none⟩ = some (.int .i64 a0_7) := (blk_cell BK141.out 7).trans rfl
                   have hfz52_0 := blk_frozen BK141.out 0
                   have hfz52_1 := blk_frozen BK141.out 1
                   have hfz52_2 := blk_frozen BK141.out 2
                   have hfz52_3 := blk_frozen BK141.out 3
                   have hfz52_4 := blk_frozen BK141.out 4
                   have hfz52_5 := blk_frozen BK141.out 5
                   have hfz52_6 := blk_frozen BK141.out 6
                   have hfz52_7 := blk_frozen BK141.out 7
                   try go_wp2_with (first | ((with_reducible refine gate_callee (f := 18) rfl ?_); refine goesL_ (some 64) rfl rfl Tryd.func18 (by kernel_rfl) rfl #[.int .i64 (wrap64 (Int.tdiv (ji36) 60)), .int .i64 2] rfl (by (try simp only [List.map_toArray, List.map_cons, List.map_nil]); first | done | (simp only [hji36]; rfl) | rfl | (simp only [List.length_drop, List.length_take]; rfl)) ?_; (with_reducible refine (impl_padded.calls (wrap64 (Int.tdiv (ji36) 60)) 2 t149 _ ?side1 A37.out).mono ?_); (case side1 => exact GL.below HGL.out (by repeat (first | (with_reducible first | exact HB.out | apply below_alloc | apply pw_below_drewN | apply below_drew1 | refine below_set ?_ GE141.out) | exact HB.out))); rintro e w53 ⟨rfl, hb⟩; refine ⟨_, rfl, ?_⟩; have n0_ := Aside0.mk (blk_below (g := gb141) (o := .cells #[.int .i64 a0_0, .int .i64 a0_1, .int .i64 a0_2, .int .i64 a0_3, .int .i64 a0_4, .int .i64 a0_5, .bool true, .int .i64 a0_7] 23 (0, 0)) (by (with_reducible repeat (first | refine blk_drewN ?_ _ | refine blk_drew ?_ | refine blk_alloc ?_ _)); exact BK141.out) hb); have n1_ := Aside0.mk (below_step (by repeat (first | (with_reducible first | exact HB.out | apply below_alloc | apply pw_below_drewN | apply below_drew1 | refine below_set ?_ GE141.out) | exact HB.out)) hb); clear BK141; clear HB; have BK141 := n0_; have HB := n1_; clear n0_ n1_; (try clear hb); (try clear hb2); (try clear hk); (try clear hi)) | ((with_reducible refine gate_callee (f := 18) rfl ?_); refine goesL_ (some 69) rfl rfl Tryd.func18 (by kernel_rfl) rfl #[.int .i64 (Int.tmod (ji36) 60), .int .i64 2] rfl (by (try simp only [List.map_toArray, List.map_cons, List.map_nil]); first | done | (simp only [hji36]; rfl) | rfl | (simp only [List.length_drop, List.length_take]; rfl)) ?_; (with_reducible refine (impl_padded.calls (Int.tmod (ji36) 60) 2 t150 _ ?side1 A40.out).mono ?_); (case side1 => exact GL.below HGL.out (by repeat (first | (with_reducible first | exact HB.out | apply below_alloc | apply pw_below_drewN | apply below_drew1 | refine below_set ?_ GE141.out) | exact HB.out))); rintro e w54 ⟨rfl, hb⟩; refine ⟨_, rfl, ?_⟩; have n0_ := Aside0.mk (blk_below (g := gb141) (o := .cells #[.int .i64 a0_0, .int .i64 a0_1, .int .i64 a0_2, .int .i64 a0_3, .int .i64 a0_4, .int .i64 a0_5, .bool true, .int .i64 a0_7] 23 (0, 0)) (by (with_reducible repeat (first | refine blk_drewN ?_ _ | refine blk_drew ?_ | refine blk_alloc ?_ _)); exact BK141.out) hb); have n1_ := Aside0.mk (below_step (by repeat (first | (with_reducible first | exact HB.out | apply below_alloc | apply pw_below_drewN | apply below_drew1 | refine below_set ?_ GE141.out) | exact HB.out)) hb); clear BK141; clear HB; have BK141 := n0_; have HB := n1_; clear n0_ n1_; (try clear hb); (try clear hb2); (try clear hk); (try clear hi)))
                   go_ret
                   exact ⟨by first | rfl | (simp [errW_none, errW_some] <;> rfl) | (simp only [← hji36]; first | rfl | (simp [errW_none, errW_some] <;> rfl)) | (simp [*, errW_none, errW_some] <;> rfl), by repeat (first | (with_reducible first | exact HB.out | apply below_alloc | apply pw_below_drewN | apply below_drew1 | refine below_set ?_ GE141.out) | exact HB.out)⟩
                  ·rw [if_neg c41] at H
                   exact absurd H (by simp)
                 ·rw [if_neg c39] at H
                  exact absurd H (by simp)
                ·rw [if_neg c38] at H
                 exact absurd H (by simp)
               ·rw [if_neg c35] at H
                exact absurd H (by simp)
              ·rw [if_neg c34] at H
               have c34b0 : decide (a0_7 < 0) = false := decide_eq_false c34
               clear c34
               by_cases c55 : t143.size + 1 + t144.size + 1 + t145.size + 1 + t146.size + 1 + t147.size + 1 + t148.size + 1 ≤ 9223372036854775807
               ·rw [if_pos c55] at H
                have c55b0 := eq_true c55
                have c55b1 : decide (t143.size + 1 + t144.size + 1 + t145.size + 1 + t146.size + 1 + t147.size + 1 + t148.size + 1 ≤ 9223372036854775807) = true := decide_eq_true c55
                try have c55b2 : (9223372036854775807 < t143.size + 1 + t144.size + 1 + t145.size + 1 + t146.size + 1 + t147.size + 1 + t148.size + 1) = False := eq_false (Nat.not_lt.2 c55)
                obtain ⟨ji56, hji56⟩ : ∃ j_ : Int, (mx a0_7 (wrap64 (-a0_7))) = j_ := ⟨_, rfl⟩
                replace H : ((impl_padded.f (wrap64 (Int.tdiv (ji56) 60)) 2).bind fun t151 => (if t143.size + 1 + t144.size + 1 + t145.size + 1 + t146.size + 1 + t147.size + 1 + t148.size + 1 + t151.size ≤ 9223372036854775807 then (if t143.size + 1 + t144.size + 1 + t145.size + 1 + t146.size + 1 + t147.size + 1 + t148.size + 1 + t151.size + 1 ≤ 9223372036854775807 then ((impl_padded.f (Int.tmod (ji56) 60) 2).bind fun t152 => (if t143.size + 1 + t144.size + 1 + t145.size + 1 + t146.size + 1 + t147.size + 1 + t148.size + 1 + t151.size + 1 + t152.size ≤ 9223372036854775807 then (some ((((((((((((((t143 ++ (⟨#[45]⟩ : ByteArray)) ++ t144) ++ (⟨#[45]⟩ : ByteArray)) ++ t145) ++ (⟨#[84]⟩ : ByteArray)) ++ t146) ++ (⟨#[58]⟩ : ByteArray)) ++ t147) ++ (⟨#[58]⟩ : ByteArray)) ++ t148) ++ (⟨#[43]⟩ : ByteArray)) ++ t151) ++ (⟨#[58]⟩ : ByteArray)) ++ t152)) else (none))) else (none)) else (none))) = some r := by first | (rw [hji56] at H; exact H) | (simp only [hji56] at H ⊢; exact H)
                (try rw [hji56] at A2)
                (try rw [hji56] at A4)
                (try rw [hji56] at A6)
                (try rw [hji56] at A9)
                (try rw [hji56] at A12)
                (try rw [hji56] at A15)
                (try rw [hji56] at A18)
                have hji56_ : (if a0_7 < (wrap64 (-a0_7)) then (wrap64 (-a0_7)) else a0_7) = ji56 := hji56
                replace H := Option.bind_eq_some_iff.mp H
                obtain ⟨t151, A570, H⟩ := H
                replace H : (if t143.size + 1 + t144.size + 1 + t145.size + 1 + t146.size + 1 + t147.size + 1 + t148.size + 1 + t151.size ≤ 9223372036854775807 then (if t143.size + 1 + t144.size + 1 + t145.size + 1 + t146.size + 1 + t147.size + 1 + t148.size + 1 + t151.size + 1 ≤ 9223372036854775807 then ((impl_padded.f (Int.tmod (ji56) 60) 2).bind fun t152 => (if t143.size + 1 + t144.size + 1 + t145.size + 1 + t146.size + 1 + t147.size + 1 + t148.size + 1 + t151.size + 1 + t152.size ≤ 9223372036854775807 then (some ((((((((((((((t143 ++ (⟨#[45]⟩ : ByteArray)) ++ t144) ++ (⟨#[45]⟩ : ByteArray)) ++ t145) ++ (⟨#[84]⟩ : ByteArray)) ++ t146) ++ (⟨#[58]⟩ : ByteArray)) ++ t147) ++ (⟨#[58]⟩ : ByteArray)) ++ t148) ++ (⟨#[43]⟩ : ByteArray)) ++ t151) ++ (⟨#[58]⟩ : ByteArray)) ++ t152)) else (none))) else (none)) else (none)) = some r := H
                have A57 := Aside0.mk A570
                clear A570
                by_cases c58 : t143.size + 1 + t144.size + 1 + t145.size + 1 + t146.size + 1 + t147.size + 1 + t148.size + 1 + t151.size ≤ 9223372036854775807
                ·rw [if_pos c58] at H
                 have c58b0 := eq_true c58
                 have c58b1 : decide (t143.size + 1 + t144.size + 1 + t145.size + 1 + t146.size + 1 + t147.size + 1 + t148.size + 1 + t151.size ≤ 9223372036854775807) = true := decide_eq_true c58
                 try have c58b2 : (9223372036854775807 < t143.size + 1 + t144.size + 1 + t145.size + 1 + t146.size + 1 + t147.size + 1 + t148.size + 1 + t151.size) = False := eq_false (Nat.not_lt.2 c58)
                 by_cases c59 : t143.size + 1 + t144.size + 1 + t145.size + 1 + t146.size + 1 + t147.size + 1 + t148.size + 1 + t151.size + 1 ≤ 9223372036854775807
                 ·rw [if_pos c59] at H
                  have c59b0 := eq_true c59
                  have c59b1 : decide (t143.size + 1 + t144.size + 1 + t145.size + 1 + t146.size + 1 + t147.size + 1 + t148.size + 1 + t151.size + 1 ≤ 9223372036854775807) = true := decide_eq_true c59
                  try have c59b2 : (9223372036854775807 < t143.size + 1 + t144.size + 1 + t145.size + 1 + t146.size + 1 + t147.size + 1 + t148.size + 1 + t151.size + 1) = False := eq_false (Nat.not_lt.2 c59)
                  replace H := Option.bind_eq_some_iff.mp H
                  obtain ⟨t152, A600, H⟩ := H
                  replace H : (if t143.size + 1 + t144.size + 1 + t145.size + 1 + t146.size + 1 + t147.size + 1 + t148.size + 1 + t151.size + 1 + t152.size ≤ 9223372036854775807 then (some ((((((((((((((t143 ++ (⟨#[45]⟩ : ByteArray)) ++ t144) ++ (⟨#[45]⟩ : ByteArray)) ++ t145) ++ (⟨#[84]⟩ : ByteArray)) ++ t146) ++ (⟨#[58]⟩ : ByteArray)) ++ t147) ++ (⟨#[58]⟩ : ByteArray)) ++ t148) ++ (⟨#[43]⟩ : ByteArray)) ++ t151) ++ (⟨#[58]⟩ : ByteArray)) ++ t152)) else (none)) = some r := H
                  have A60 := Aside0.mk A600
                  clear A600
                  by_cases c61 : t143.size + 1 + t144.size + 1 + t145.size + 1 + t146.size + 1 + t147.size + 1 + t148.size + 1 + t151.size + 1 + t152.size ≤ 9223372036854775807
                  ·rw [if_pos c61] at H
                   have c61b0 := eq_true c61
                   have c61b1 : decide (t143.size + 1 + t144.size + 1 + t145.size + 1 + t146.size + 1 + t147.size + 1 + t148.size + 1 + t151.size + 1 + t152.size ≤ 9223372036854775807) = true := decide_eq_true c61
                   try have c61b2 : (9223372036854775807 < t143.size + 1 + t144.size + 1 + t145.size + 1 + t146.size + 1 + t147.size + 1 + t148.size + 1 + t151.size + 1 + t152.size) = False := eq_false (Nat.not_lt.2 c61)
                   obtain rfl := Option.some.inj H
                   go_enter Tryd.func10, Tryd.ntmps10
                   try go_wp2_with (first | ((with_reducible refine gate_dst (N := 1) rfl ?_); refine box_event ?hg (N := 1) ?hd (cs := #[.int .i64 a0_0, .int .i64 a0_1, .int .i64 a0_2, .int .i64 a0_3, .int .i64 a0_4, .int .i64 a0_5, .bool true, .int .i64 a0_7]) (t := 23) ?hr ?_; (case hd => rfl); (case hg => rfl); (case hr => first | (go_simp; done) | (go_simp; rfl)); intro gb141 hg w62 hbox hb; have n0_ := Aside0.mk (below_step (by repeat (first | (with_reducible first | exact HB.out | apply below_alloc | apply pw_below_drewN | apply below_drew1) | exact HB.out)) hb); have n1_ := Aside0.mk (hbox); have n2_ := Aside0.mk ((by rw [hg]; exact (below_size (by repeat (first | (with_reducible first | exact HB.out | apply below_alloc | apply pw_below_drewN | apply below_drew1) | exact HB.out))) : w.heap.size ≤ gb141)); have n3_ := Aside0.mk ((by rw [hg]; exact (below_size (by repeat (first | (with_reducible first | exact HB.out | apply below_alloc | apply pw_below_drewN | apply below_drew1) | exact HB.out))) : w.heap.size ≤ gb141)); clear HB; have HB := n0_; have BK141 := n1_; have GW141 := n2_; have GE141 := n3_; clear n0_ n1_ n2_ n3_; clear hb hbox hg; have hcz63_0 : w62.cell? ⟨gb141, 0, none⟩ = some (.int .i64 a0_0) := (blk_cell BK141.out 0).trans rfl; have hcz63_1 : w62.cell? ⟨gb141, 1, none⟩ = some (.int .i64 a0_1) := (blk_cell BK141.out 1).trans rfl; have hcz63_2 : w62.cell? ⟨gb141, 2, none⟩ = some (.int .i64 a0_2) := (blk_cell BK141.out 2).trans rfl; have hcz63_3 : w62.cell? ⟨gb141, 3, none⟩ = some (.int .i64 a0_3) := (blk_cell BK141.out 3).trans rfl; have hcz63_4 : w62.cell? ⟨gb141, 4, none⟩ = some (.int .i64 a0_4) := (blk_cell BK141.out 4).trans rfl; have hcz63_5 : w62.cell? ⟨gb141, 5, none⟩ = some (.int .i64 a0_5) := (blk_cell BK141.out 5).trans rfl; have hcz63_6 : w62.cell? ⟨gb141, 6, none⟩ = some (.bool true) := (blk_cell BK141.out 6).trans rfl; have hcz63_7 : w62.cell? ⟨gb141, 7, none⟩ = some (.int .i64 a0_7) := (blk_cell BK141.out 7).trans rfl; have hfz63_0 := blk_frozen BK141.out 0; have hfz63_1 := blk_frozen BK141.out 1; have hfz63_2 := blk_frozen BK141.out 2; have hfz63_3 := blk_frozen BK141.out 3; have hfz63_4 := blk_frozen BK141.out 4; have hfz63_5 := blk_frozen BK141.out 5; have hfz63_6 := blk_frozen BK141.out 6; have hfz63_7 := blk_frozen BK141.out 7) | ((with_reducible refine gate_callee (f := 16) rfl ?_); refine goesL_ (some 6) rfl rfl Tryd.func16 (by kernel_rfl) rfl #[.agg #[.int .i64 a0_0, .int .i64 a0_1, .int .i64 a0_2, .int .i64 a0_3, .int .i64 a0_4, .int .i64 a0_5, .bool true, .int .i64 a0_7]] rfl (by (try simp only [List.map_toArray, List.map_cons, List.map_nil]); first | done | rfl | (simp only [List.length_drop, List.length_take]; rfl)) ?_; (with_reducible refine (impl_DateOk.calls a0_0 a0_1 a0_2 a0_3 a0_4 a0_5 true a0_7 true _ A2.out).mono ?_); rintro e w64 ⟨rfl, hb⟩; refine ⟨_, rfl, ?_⟩; have n0_ := Aside0.mk (blk_below (g := gb141) (o := .cells #[.int .i64 a0_0, .int .i64 a0_1, .int .i64 a0_2, .int .i64 a0_3, .int .i64 a0_4, .int .i64 a0_5, .bool true, .int .i64 a0_7] 23 (0, 0)) (by (with_reducible repeat (first | refine blk_drewN ?_ _ | refine blk_drew ?_ | refine blk_alloc ?_ _)); exact BK141.out) hb); have n1_ := Aside0.mk (below_step (by repeat (first | (with_reducible first | exact HB.out | apply below_alloc | apply pw_below_drewN | apply below_drew1 | refine below_set ?_ GE141.out) | exact HB.out)) hb); clear BK141; clear HB; have BK141 := n0_; have HB := n1_; clear n0_ n1_; (try clear hb); (try clear hb2); (try clear hk); (try clear hi)))
                   have n0_ := Aside0.mk (blk_drew BK141.out)
                   have n1_ := Aside0.mk (below_drew1 HB.out)
                   clear BK141
                   clear HB
                   have BK141 := n0_
                   have HB := n1_
                   clear n0_ n1_
                   refine start_ (n := 29) (S := fun w' => w'.cell? ⟨gb141, 0, none⟩ = some (.int .i64 a0_0) ∧ w'.cell? ⟨gb141, 1, none⟩ = some (.int .i64 a0_1) ∧ w'.cell? ⟨gb141, 2, none⟩ = some (.int .i64 a0_2) ∧ w'.cell? ⟨gb141, 3, none⟩ = some (.int .i64 a0_3) ∧ w'.cell? ⟨gb141, 4, none⟩ = some (.int .i64 a0_4) ∧ w'.cell? ⟨gb141, 5, none⟩ = some (.int .i64 a0_5) ∧ w'.cell? ⟨gb141, 6, none⟩ = some (.bool true) ∧ w'.cell? ⟨gb141, 7, none⟩ = some (.int .i64 a0_7)) (ds := []) #[false, false, false, false, false, false, false, false, false, false, false, false, false, false, false, false, false, false, false, false, false, false, false, false, false, false, false, false, false] (by kernel_rfl) rfl rfl ⟨(blk_cell BK141.out 0).trans rfl, (blk_cell BK141.out 1).trans rfl, (blk_cell BK141.out 2).trans rfl, (blk_cell BK141.out 3).trans rfl, (blk_cell BK141.out 4).trans rfl, (blk_cell BK141.out 5).trans rfl, (blk_cell BK141.out 6).trans rfl, (blk_cell BK141.out 7).trans rfl⟩ (fun hHeld => ?_); refine with_tabW impl_DateText.tab3 impl_DateText.bits3 (fun HT_ HW_ => ?_)
                   generalize w64.drew = w65 at BK141 HB hHeld ⊢
                   refine pure_ (i := 0) (N := some 8) (v := ?_) (a' := ?_) #[true, false, false, false, false, false, false, false, false, false, false, false, false, false, false, false, false, false, false, false, false, false, false, false, false, false, false, false, false] rfl rfl (any_of HT_.out (by kernel_rfl)) (fun _ _ _ h => h) (Or.inl ⟨by rfl, ?_⟩) ?_ ?_
                   rotate_left
                   ·intro w'
                    go_simp
                    with_reducible rfl
                   rotate_left
                   ·simp only [Act.put, List.setIfInBounds_toArray, List.set_cons_zero, List.set_cons_succ, i64_w, i32_w]
                    rfl
                   refine pure_ (i := 4) (N := some 12) (v := ?_) (a' := ?_) #[true, false, false, false, true, false, false, false, false, false, false, false, false, false, false, false, false, false, false, false, false, false, false, false, false, false, false, false, false] rfl rfl (any_of HT_.out (by kernel_rfl)) (fun _ _ _ h => h) (Or.inl ⟨by rfl, ?_⟩) ?_ ?_
                   rotate_left
                   ·intro w'
                    go_simp
                    with_reducible rfl
                   rotate_left
                   ·simp only [Act.put, List.setIfInBounds_toArray, List.set_cons_zero, List.set_cons_succ, i64_w, i32_w]
                    rfl
                   refine pure_ (i := 9) (N := some 17) (v := ?_) (a' := ?_) #[true, false, false, false, true, false, false, false, false, true, false, false, false, false, false, false, false, false, false, false, false, false, false, false, false, false, false, false, false] rfl rfl (any_of HT_.out (by kernel_rfl)) (fun _ _ _ h => h) (Or.inl ⟨by rfl, ?_⟩) ?_ ?_
                   rotate_left
                   ·intro w'
                    go_simp
                    with_reducible rfl
                   rotate_left
                   ·simp only [Act.put, List.setIfInBounds_toArray, List.set_cons_zero, List.set_cons_succ, i64_w, i32_w]
                    rfl
                   refine pure_ (i := 14) (N := some 22) (v := ?_) (a' := ?_) #[true, false, false, false, true, false, false, false, false, true, false, false, false, false, true, false, false, false, false, false, false, false, false, false, false, false, false, false, false] rfl rfl (any_of HT_.out (by kernel_rfl)) (fun _ _ _ h => h) (Or.inl ⟨by rfl, ?_⟩) ?_ ?_
                   rotate_left
                   ·intro w'
                    go_simp
                    with_reducible rfl
                   rotate_left
                   ·simp only [Act.put, List.setIfInBounds_toArray, List.set_cons_zero, List.set_cons_succ, i64_w, i32_w]
                    rfl
                   refine pure_ (i := 19) (N := some 27) (v := ?_) (a' := ?_) #[true, false, false, false, true, false, false, false, false, true, false, false, false, false, true, false, false, false, false, true, false, false, false, false, false, false, false, false, false] rfl rfl (any_of HT_.out (by kernel_rfl)) (fun _ _ _ h => h) (Or.inl ⟨by rfl, ?_⟩) ?_ ?_
                   rotate_left
                   ·intro w'
                    go_simp
                    with_reducible rfl
                   rotate_left
                   ·simp only [Act.put, List.setIfInBounds_toArray, List.set_cons_zero, List.set_cons_succ, i64_w, i32_w]
                    rfl
                   refine pure_ (i := 24) (N := some 32) (v := ?_) (a' := ?_) #[true, false, false, false, true, false, false, false, false, true, false, false, false, false, true, false, false, false, false, true, false, false, false, false, true, false, false, false, false] rfl rfl (any_of HT_.out (by kernel_rfl)) (fun _ _ _ h => h) (Or.inl ⟨by rfl, ?_⟩) ?_ ?_
                   rotate_left
                   ·intro w'
                    go_simp
                    with_reducible rfl
                   rotate_left
                   ·simp only [Act.put, List.setIfInBounds_toArray, List.set_cons_zero, List.set_cons_succ, i64_w, i32_w]
                    rfl
                   refine take_ (i := 1) (N := some 9) (v := ?_) (a' := ?_) #[true, true, false, false, true, false, false, false, false, true, false, false, false, false, true, false, false, false, false, true, false, false, false, false, true, false, false, false, false] rfl rfl (take_ofW HT_.out HW_.out (by kernel_rfl)) (fun _ _ _ h => h) (Or.inl ⟨by rfl, ?_⟩) hHeld ?_ ?_
                   rotate_left
                   ·rintro w' ⟨s0, s1, s2, s3, s4, s5, s6, s7⟩
                    go_simp
                    with_reducible rfl
                   rotate_left
                   ·simp only [Act.put, List.setIfInBounds_toArray, List.set_cons_zero, List.set_cons_succ, i64_w, i32_w]
                    rfl
                   refine take_ (i := 5) (N := some 13) (v := ?_) (a' := ?_) #[true, true, false, false, true, true, false, false, false, true, false, false, false, false, true, false, false, false, false, true, false, false, false, false, true, false, false, false, false] rfl rfl (take_ofW HT_.out HW_.out (by kernel_rfl)) (fun _ _ _ h => h) (Or.inl ⟨by rfl, ?_⟩) hHeld ?_ ?_
                   rotate_left
                   ·rintro w' ⟨s0, s1, s2, s3, s4, s5, s6, s7⟩
                    go_simp
                    with_reducible rfl
                   rotate_left
                   ·simp only [Act.put, List.setIfInBounds_toArray, List.set_cons_zero, List.set_cons_succ, i64_w, i32_w]
                    rfl
                   refine take_ (i := 10) (N := some 18) (v := ?_) (a' := ?_) #[true, true, false, false, true, true, false, false, false, true, true, false, false, false, true, false, false, false, false, true, false, false, false, false, true, false, false, false, false] rfl rfl (take_ofW HT_.out HW_.out (by kernel_rfl)) (fun _ _ _ h => h) (Or.inl ⟨by rfl, ?_⟩) hHeld ?_ ?_
                   rotate_left
                   ·rintro w' ⟨s0, s1, s2, s3, s4, s5, s6, s7⟩
                    go_simp
                    with_reducible rfl
                   rotate_left
                   ·simp only [Act.put, List.setIfInBounds_toArray, List.set_cons_zero, List.set_cons_succ, i64_w, i32_w]
                    rfl
                   refine take_ (i := 15) (N := some 23) (v := ?_) (a' := ?_) #[true, true, false, false, true, true, false, false, false, true, true, false, false, false, true, true, false, false, false, true, false, false, false, false, true, false, false, false, false] rfl rfl (take_ofW HT_.out HW_.out (by kernel_rfl)) (fun _ _ _ h => h) (Or.inl ⟨by rfl, ?_⟩) hHeld ?_ ?_
                   rotate_left
                   ·rintro w' ⟨s0, s1, s2, s3, s4, s5, s6, s7⟩
                    go_simp
                    with_reducible rfl
                   rotate_left
                   ·simp only [Act.put, List.setIfInBounds_toArray, List.set_cons_zero, List.set_cons_succ, i64_w, i32_w]
                    rfl
                   refine take_ (i := 20) (N := some 28) (v := ?_) (a' := ?_) #[true, true, false, false, true, true, false, false, false, true, true, false, false, false, true, true, false, false, false, true, true, false, false, false, true, false, false, false, false] rfl rfl (take_ofW HT_.out HW_.out (by kernel_rfl)) (fun _ _ _ h => h) (Or.inl ⟨by rfl, ?_⟩) hHeld ?_ ?_
                   rotate_left
                   ·rintro w' ⟨s0, s1, s2, s3, s4, s5, s6, s7⟩
                    go_simp
                    with_reducible rfl
                   rotate_left
                   ·simp only [Act.put, List.setIfInBounds_toArray, List.set_cons_zero, List.set_cons_succ, i64_w, i32_w]
                    rfl
                   refine take_ (i := 25) (N := some 33) (v := ?_) (a' := ?_) #[true, true, false, false, true, true, false, false, false, true, true, false, false, false, true, true, false, false, false, true, true, false, false, false, true, true, false, false, false] rfl rfl (take_ofW HT_.out HW_.out (by kernel_rfl)) (fun _ _ _ h => h) (Or.inl ⟨by rfl, ?_⟩) hHeld ?_ ?_
                   rotate_left
                   ·rintro w' ⟨s0, s1, s2, s3, s4, s5, s6, s7⟩
                    go_simp
                    with_reducible rfl
                   rotate_left
                   ·simp only [Act.put, List.setIfInBounds_toArray, List.set_cons_zero, List.set_cons_succ, i64_w, i32_w]
                    rfl
                   refine one_ (i := 2) (N := some 10) #[true, true, true, false, true, true, false, false, false, true, true, false, false, false, true, true, false, false, false, true, true, false, false, false, true, true, false, false, false] rfl rfl (one_of HT_.out (by kernel_rfl)) (by decide) (fun K hK => ?_)
                   refine goes_ Tryd.func18 (by kernel_rfl) rfl #[.int .i64 a0_0, .int .i64 4] (by rfl) rfl rfl (by (try simp only [List.map_toArray, List.map_cons, List.map_nil]); first | done | rfl | (simp only [List.length_drop, List.length_take]; rfl)) ?_
                   with_reducible refine (impl_padded.calls a0_0 4 t143 _ ?side1 A4.out).mono ?_
                   (case side1 => exact GL.below HGL.out (by repeat (first | (with_reducible first | exact HB.out | apply below_alloc | apply pw_below_drewN | apply below_drew1 | refine below_set ?_ GE141.out) | exact HB.out)))
                   rintro e w66 ⟨rfl, hb⟩
                   refine ⟨_, rfl, ?_⟩
                   have n0_ := Aside0.mk (blk_below (g := gb141) (o := .cells #[.int .i64 a0_0, .int .i64 a0_1, .int .i64 a0_2, .int .i64 a0_3, .int .i64 a0_4, .int .i64 a0_5, .bool true, .int .i64 a0_7] 23 (0, 0)) (by (with_reducible repeat (first | refine blk_drewN ?_ _ | refine blk_drew ?_ | refine blk_alloc ?_ _)); exact BK141.out) hb)
                   have n1_ := Aside0.mk (below_step (by repeat (first | (with_reducible first | exact HB.out | apply below_alloc | apply pw_below_drewN | apply below_drew1 | refine below_set ?_ GE141.out) | exact HB.out)) hb)
                   clear BK141
                   clear HB
                   have BK141 := n0_
                   have HB := n1_
                   clear n0_ n1_
                   (try clear hb)
                   (try clear hb2)
                   (try clear hk)
                   (try clear hi)
                   refine hK.out _ _ ⟨(blk_cell BK141.out 0).trans rfl, (blk_cell BK141.out 1).trans rfl, (blk_cell BK141.out 2).trans rfl, (blk_cell BK141.out 3).trans rfl, (blk_cell BK141.out 4).trans rfl, (blk_cell BK141.out 5).trans rfl, (blk_cell BK141.out 6).trans rfl, (blk_cell BK141.out 7).trans rfl⟩ (fun hHeld => ?_)
                   clear hK K
                   refine norm_ (a' := ?_) ?_ ?_
                   rotate_left
                   ·show Act.put _ (some 10) _ = _
                    simp only [Act.put, List.setIfInBounds_toArray, List.set_cons_zero, List.set_cons_succ, i64_w, i32_w]
                    rfl
                   refine pure_ (i := 3) (N := some 11) (v := ?_) (a' := ?_) #[true, true, true, true, true, true, false, false, false, true, true, false, false, false, true, true, false, false, false, true, true, false, false, false, true, true, false, false, false] rfl rfl (any_of HT_.out (by kernel_rfl)) (fun _ _ _ h => h) (Or.inl ⟨by rfl, ?_⟩) ?_ ?_
                   rotate_left
                   ·intro w'
                    go_simp
                    with_reducible rfl
                   rotate_left
                   ·simp only [Act.put, List.setIfInBounds_toArray, List.set_cons_zero, List.set_cons_succ, i64_w, i32_w]
                    rfl
                   refine one_ (i := 6) (N := some 14) #[true, true, true, true, true, true, true, false, false, true, true, false, false, false, true, true, false, false, false, true, true, false, false, false, true, true, false, false, false] rfl rfl (one_of HT_.out (by kernel_rfl)) (by decide) (fun K hK => ?_)
                   refine goes_ Tryd.func18 (by kernel_rfl) rfl #[.int .i64 a0_1, .int .i64 2] (by rfl) rfl rfl (by (try simp only [List.map_toArray, List.map_cons, List.map_nil]); first | done | rfl | (simp only [List.length_drop, List.length_take]; rfl)) ?_
                   with_reducible refine (impl_padded.calls a0_1 2 t144 _ ?side1 A6.out).mono ?_
                   (case side1 => exact GL.below HGL.out (by repeat (first | (with_reducible first | exact HB.out | apply below_alloc | apply pw_below_drewN | apply below_drew1 | refine below_set ?_ GE141.out) | exact HB.out)))
                   rintro e w67 ⟨rfl, hb⟩
                   refine ⟨_, rfl, ?_⟩
                   have n0_ := Aside0.mk (blk_below (g := gb141) (o := .cells #[.int .i64 a0_0, .int .i64 a0_1, .int .i64 a0_2, .int .i64 a0_3, .int .i64 a0_4, .int .i64 a0_5, .bool true, .int .i64 a0_7] 23 (0, 0)) (by (with_reducible repeat (first | refine blk_drewN ?_ _ | refine blk_drew ?_ | refine blk_alloc ?_ _)); exact BK141.out) hb)
                   have n1_ := Aside0.mk (below_step (by repeat (first | (with_reducible first | exact HB.out | apply below_alloc | apply pw_below_drewN | apply below_drew1 | refine below_set ?_ GE141.out) | exact HB.out)) hb)
                   clear BK141
                   clear HB
                   have BK141 := n0_
                   have HB := n1_
                   clear n0_ n1_
                   (try clear hb)
                   (try clear hb2)
                   (try clear hk)
                   (try clear hi)
                   refine hK.out _ _ ⟨(blk_cell BK141.out 0).trans rfl, (blk_cell BK141.out 1).trans rfl, (blk_cell BK141.out 2).trans rfl, (blk_cell BK141.out 3).trans rfl, (blk_cell BK141.out 4).trans rfl, (blk_cell BK141.out 5).trans rfl, (blk_cell BK141.out 6).trans rfl, (blk_cell BK141.out 7).trans rfl⟩ (fun hHeld => ?_)
                   clear hK K
                   refine norm_ (a' := ?_) ?_ ?_
                   rotate_left
                   ·show Act.put _ (some 14) _ = _
                    simp only [Act.put, List.setIfInBounds_toArray, List.set_cons_zero, List.set_cons_succ, i64_w, i32_w]
                    rfl
                   refine pure_ (i := 7) (N := some 15) (v := ?_) (a' := ?_) #[true, true, true, true, true, true, true, true, false, true, true, false, false, false, true, true, false, false, false, true, true, false, false, false, true, true, false, false, false] rfl rfl (any_of HT_.out (by kernel_rfl)) (fun _ _ _ h => h) (Or.inl ⟨by rfl, ?_⟩) ?_ ?_
                   rotate_left
                   ·intro w'
                    go_simp
                    with_reducible rfl
                   rotate_left
                   ·simp only [Act.put, List.setIfInBounds_toArray, List.set_cons_zero, List.set_cons_succ, i64_w, i32_w]
                    rfl
                   refine pure_ (i := 8) (N := some 16) (v := ?_) (a' := ?_) #[true, true, true, true, true, true, true, true, true, true, true, false, false, false, true, true, false, false, false, true, true, false, false, false, true, true, false, false, false] rfl rfl (any_of HT_.out (by kernel_rfl)) (fun _ _ _ h => h) (Or.inl ⟨by rfl, ?_⟩) ?_ ?_
                   rotate_left
                   ·intro w'
                    go_simp
                    with_reducible rfl
                   rotate_left
                   ·simp only [Act.put, List.setIfInBounds_toArray, List.set_cons_zero, List.set_cons_succ, i64_w, i32_w]
                    rfl
                   refine one_ (i := 11) (N := some 19) #[true, true, true, true, true, true, true, true, true, true, true, true, false, false, true, true, false, false, false, true, true, false, false, false, true, true, false, false, false] rfl rfl (one_of HT_.out (by kernel_rfl)) (by decide) (fun K hK => ?_)
                   refine goes_ Tryd.func18 (by kernel_rfl) rfl #[.int .i64 a0_2, .int .i64 2] (by rfl) rfl rfl (by (try simp only [List.map_toArray, List.map_cons, List.map_nil]); first | done | rfl | (simp only [List.length_drop, List.length_take]; rfl)) ?_
                   with_reducible refine (impl_padded.calls a0_2 2 t145 _ ?side1 A9.out).mono ?_
                   (case side1 => exact GL.below HGL.out (by repeat (first | (with_reducible first | exact HB.out | apply below_alloc | apply pw_below_drewN | apply below_drew1 | refine below_set ?_ GE141.out) | exact HB.out)))
                   rintro e w68 ⟨rfl, hb⟩
                   refine ⟨_, rfl, ?_⟩
                   have n0_ := Aside0.mk (blk_below (g := gb141) (o := .cells #[.int .i64 a0_0, .int .i64 a0_1, .int .i64 a0_2, .int .i64 a0_3, .int .i64 a0_4, .int .i64 a0_5, .bool true, .int .i64 a0_7] 23 (0, 0)) (by (with_reducible repeat (first | refine blk_drewN ?_ _ | refine blk_drew ?_ | refine blk_alloc ?_ _)); exact BK141.out) hb)
                   have n1_ := Aside0.mk (below_step (by repeat (first | (with_reducible first | exact HB.out | apply below_alloc | apply pw_below_drewN | apply below_drew1 | refine below_set ?_ GE141.out) | exact HB.out)) hb)
                   clear BK141
                   clear HB
                   have BK141 := n0_
                   have HB := n1_
                   clear n0_ n1_
                   (try clear hb)
                   (try clear hb2)
                   (try clear hk)
                   (try clear hi)
                   refine hK.out _ _ ⟨(blk_cell BK141.out 0).trans rfl, (blk_cell BK141.out 1).trans rfl, (blk_cell BK141.out 2).trans rfl, (blk_cell BK141.out 3).trans rfl, (blk_cell BK141.out 4).trans rfl, (blk_cell BK141.out 5).trans rfl, (blk_cell BK141.out 6).trans rfl, (blk_cell BK141.out 7).trans rfl⟩ (fun hHeld => ?_)
                   clear hK K
                   refine norm_ (a' := ?_) ?_ ?_
                   rotate_left
                   ·show Act.put _ (some 19) _ = _
                    simp only [Act.put, List.setIfInBounds_toArray, List.set_cons_zero, List.set_cons_succ, i64_w, i32_w]
                    rfl
                   refine pure_ (i := 12) (N := some 20) (v := ?_) (a' := ?_) #[true, true, true, true, true, true, true, true, true, true, true, true, true, false, true, true, false, false, false, true, true, false, false, false, true, true, false, false, false] rfl rfl (any_of HT_.out (by kernel_rfl)) (fun _ _ _ h => h) (Or.inl ⟨by rfl, ?_⟩) ?_ ?_
                   rotate_left
                   ·intro w'
                    go_simp
                    with_reducible rfl
                   rotate_left
                   ·simp only [Act.put, List.setIfInBounds_toArray, List.set_cons_zero, List.set_cons_succ, i64_w, i32_w]
                    rfl
                   refine pure_ (i := 13) (N := some 21) (v := ?_) (a' := ?_) #[true, true, true, true, true, true, true, true, true, true, true, true, true, true, true, true, false, false, false, true, true, false, false, false, true, true, false, false, false] rfl rfl (any_of HT_.out (by kernel_rfl)) (fun _ _ _ h => h) (Or.inl ⟨by rfl, ?_⟩) ?_ ?_
                   rotate_left
                   ·intro w'
                    go_simp
                    with_reducible rfl
                   rotate_left
                   ·simp only [Act.put, List.setIfInBounds_toArray, List.set_cons_zero, List.set_cons_succ, i64_w, i32_w]
                    rfl
                   refine one_ (i := 16) (N := some 24) #[true, true, true, true, true, true, true, true, true, true, true, true, true, true, true, true, true, false, false, true, true, false, false, false, true, true, false, false, false] rfl rfl (one_of HT_.out (by kernel_rfl)) (by decide) (fun K hK => ?_)
                   refine goes_ Tryd.func18 (by kernel_rfl) rfl #[.int .i64 a0_3, .int .i64 2] (by rfl) rfl rfl (by (try simp only [List.map_toArray, List.map_cons, List.map_nil]); first | done | rfl | (simp only [List.length_drop, List.length_take]; rfl)) ?_
                   with_reducible refine (impl_padded.calls a0_3 2 t146 _ ?side1 A12.out).mono ?_
                   (case side1 => exact GL.below HGL.out (by repeat (first | (with_reducible first | exact HB.out | apply below_alloc | apply pw_below_drewN | apply below_drew1 | refine below_set ?_ GE141.out) | exact HB.out)))
                   rintro e w69 ⟨rfl, hb⟩
                   refine ⟨_, rfl, ?_⟩
                   have n0_ := Aside0.mk (blk_below (g := gb141) (o := .cells #[.int .i64 a0_0, .int .i64 a0_1, .int .i64 a0_2, .int .i64 a0_3, .int .i64 a0_4, .int .i64 a0_5, .bool true, .int .i64 a0_7] 23 (0, 0)) (by (with_reducible repeat (first | refine blk_drewN ?_ _ | refine blk_drew ?_ | refine blk_alloc ?_ _)); exact BK141.out) hb)
                   have n1_ := Aside0.mk (below_step (by repeat (first | (with_reducible first | exact HB.out | apply below_alloc | apply pw_below_drewN | apply below_drew1 | refine below_set ?_ GE141.out) | exact HB.out)) hb)
                   clear BK141
                   clear HB
                   have BK141 := n0_
                   have HB := n1_
                   clear n0_ n1_
                   (try clear hb)
                   (try clear hb2)
                   (try clear hk)
                   (try clear hi)
                   refine hK.out _ _ ⟨(blk_cell BK141.out 0).trans rfl, (blk_cell BK141.out 1).trans rfl, (blk_cell BK141.out 2).trans rfl, (blk_cell BK141.out 3).trans rfl, (blk_cell BK141.out 4).trans rfl, (blk_cell BK141.out 5).trans rfl, (blk_cell BK141.out 6).trans rfl, (blk_cell BK141.out 7).trans rfl⟩ (fun hHeld => ?_)
                   clear hK K
                   refine norm_ (a' := ?_) ?_ ?_
                   rotate_left
                   ·show Act.put _ (some 24) _ = _
                    simp only [Act.put, List.setIfInBounds_toArray, List.set_cons_zero, List.set_cons_succ, i64_w, i32_w]
                    rfl
                   refine pure_ (i := 17) (N := some 25) (v := ?_) (a' := ?_) #[true, true, true, true, true, true, true, true, true, true, true, true, true, true, true, true, true, true, false, true, true, false, false, false, true, true, false, false, false] rfl rfl (any_of HT_.out (by kernel_rfl)) (fun _ _ _ h => h) (Or.inl ⟨by rfl, ?_⟩) ?_ ?_
                   rotate_left
                   ·intro w'
                    go_simp
                    with_reducible rfl
                   rotate_left
                   ·simp only [Act.put, List.setIfInBounds_toArray, List.set_cons_zero, List.set_cons_succ, i64_w, i32_w]
                    rfl
                   refine pure_ (i := 18) (N := some 26) (v := ?_) (a' := ?_) #[true, true, true, true, true, true, true, true, true, true, true, true, true, true, true, true, true, true, true, true, true, false, false, false, true, true, false, false, false] rfl rfl (any_of HT_.out (by kernel_rfl)) (fun _ _ _ h => h) (Or.inl ⟨by rfl, ?_⟩) ?_ ?_
                   rotate_left
                   ·intro w'
                    go_simp
                    with_reducible rfl
                   rotate_left
                   ·simp only [Act.put, List.setIfInBounds_toArray, List.set_cons_zero, List.set_cons_succ, i64_w, i32_w]
                    rfl
                   refine one_ (i := 21) (N := some 29) #[true, true, true, true, true, true, true, true, true, true, true, true, true, true, true, true, true, true, true, true, true, true, false, false, true, true, false, false, false] rfl rfl (one_of HT_.out (by kernel_rfl)) (by decide) (fun K hK => ?_)
                   refine goes_ Tryd.func18 (by kernel_rfl) rfl #[.int .i64 a0_4, .int .i64 2] (by rfl) rfl rfl (by (try simp only [List.map_toArray, List.map_cons, List.map_nil]); first | done | rfl | (simp only [List.length_drop, List.length_take]; rfl)) ?_
                   with_reducible refine (impl_padded.calls a0_4 2 t147 _ ?side1 A15.out).mono ?_
                   (case side1 => exact GL.below HGL.out (by repeat (first | (with_reducible first | exact HB.out | apply below_alloc | apply pw_below_drewN | apply below_drew1 | refine below_set ?_ GE141.out) | exact HB.out)))
                   rintro e w70 ⟨rfl, hb⟩
                   refine ⟨_, rfl, ?_⟩
                   have n0_ := Aside0.mk (blk_below (g := gb141) (o := .cells #[.int .i64 a0_0, .int .i64 a0_1, .int .i64 a0_2, .int .i64 a0_3, .int .i64 a0_4, .int .i64 a0_5, .bool true, .int .i64 a0_7] 23 (0, 0)) (by (with_reducible repeat (first | refine blk_drewN ?_ _ | refine blk_drew ?_ | refine blk_alloc ?_ _)); exact BK141.out) hb)
                   have n1_ := Aside0.mk (below_step (by repeat (first | (with_reducible first | exact HB.out | apply below_alloc | apply pw_below_drewN | apply below_drew1 | refine below_set ?_ GE141.out) | exact HB.out)) hb)
                   clear BK141
                   clear HB
                   have BK141 := n0_
                   have HB := n1_
                   clear n0_ n1_
                   (try clear hb)
                   (try clear hb2)
                   (try clear hk)
                   (try clear hi)
                   refine hK.out _ _ ⟨(blk_cell BK141.out 0).trans rfl, (blk_cell BK141.out 1).trans rfl, (blk_cell BK141.out 2).trans rfl, (blk_cell BK141.out 3).trans rfl, (blk_cell BK141.out 4).trans rfl, (blk_cell BK141.out 5).trans rfl, (blk_cell BK141.out 6).trans rfl, (blk_cell BK141.out 7).trans rfl⟩ (fun hHeld => ?_)
                   clear hK K
                   refine norm_ (a' := ?_) ?_ ?_
                   rotate_left
                   ·show Act.put _ (some 29) _ = _
                    simp only [Act.put, List.setIfInBounds_toArray, List.set_cons_zero, List.set_cons_succ, i64_w, i32_w]
                    rfl
                   refine pure_ (i := 22) (N := some 30) (v := ?_) (a' := ?_) #[true, true, true, true, true, true, true, true, true, true, true, true, true, true, true, true, true, true, true, true, true, true, true, false, true, true, false, false, false] rfl rfl (any_of HT_.out (by kernel_rfl)) (fun _ _ _ h => h) (Or.inl ⟨by rfl, ?_⟩) ?_ ?_
                   rotate_left
                   ·intro w'
                    go_simp
                    with_reducible rfl
                   rotate_left
                   ·simp only [Act.put, List.setIfInBounds_toArray, List.set_cons_zero, List.set_cons_succ, i64_w, i32_w]
                    rfl
                   refine pure_ (i := 23) (N := some 31) (v := ?_) (a' := ?_) #[true, true, true, true, true, true, true, true, true, true, true, true, true, true, true, true, true, true, true, true, true, true, true, true, true, true, false, false, false] rfl rfl (any_of HT_.out (by kernel_rfl)) (fun _ _ _ h => h) (Or.inl ⟨by rfl, ?_⟩) ?_ ?_
                   rotate_left
                   ·intro w'
                    go_simp
                    with_reducible rfl
                   rotate_left
                   ·simp only [Act.put, List.setIfInBounds_toArray, List.set_cons_zero, List.set_cons_succ, i64_w, i32_w]
                    rfl
                   refine one_ (i := 26) (N := some 34) #[true, true, true, true, true, true, true, true, true, true, true, true, true, true, true, true, true, true, true, true, true, true, true, true, true, true, true, false, false] rfl rfl (one_of HT_.out (by kernel_rfl)) (by decide) (fun K hK => ?_)
                   refine goes_ Tryd.func18 (by kernel_rfl) rfl #[.int .i64 a0_5, .int .i64 2] (by rfl) rfl rfl (by (try simp only [List.map_toArray, List.map_cons, List.map_nil]); first | done | rfl | (simp only [List.length_drop, List.length_take]; rfl)) ?_
                   with_reducible refine (impl_padded.calls a0_5 2 t148 _ ?side1 A18.out).mono ?_
                   (case side1 => exact GL.below HGL.out (by repeat (first | (with_reducible first | exact HB.out | apply below_alloc | apply pw_below_drewN | apply below_drew1 | refine below_set ?_ GE141.out) | exact HB.out)))
                   rintro e w71 ⟨rfl, hb⟩
                   refine ⟨_, rfl, ?_⟩
                   have n0_ := Aside0.mk (blk_below (g := gb141) (o := .cells #[.int .i64 a0_0, .int .i64 a0_1, .int .i64 a0_2, .int .i64 a0_3, .int .i64 a0_4, .int .i64 a0_5, .bool true, .int .i64 a0_7] 23 (0, 0)) (by (with_reducible repeat (first | refine blk_drewN ?_ _ | refine blk_drew ?_ | refine blk_alloc ?_ _)); exact BK141.out) hb)
                   have n1_ := Aside0.mk (below_step (by repeat (first | (with_reducible first | exact HB.out | apply below_alloc | apply pw_below_drewN | apply below_drew1 | refine below_set ?_ GE141.out) | exact HB.out)) hb)
                   clear BK141
                   clear HB
                   have BK141 := n0_
                   have HB := n1_
                   clear n0_ n1_
                   (try clear hb)
                   (try clear hb2)
                   (try clear hk)
                   (try clear hi)
                   refine hK.out _ _ ⟨(blk_cell BK141.out 0).trans rfl, (blk_cell BK141.out 1).trans rfl, (blk_cell BK141.out 2).trans rfl, (blk_cell BK141.out 3).trans rfl, (blk_cell BK141.out 4).trans rfl, (blk_cell BK141.out 5).trans rfl, (blk_cell BK141.out 6).trans rfl, (blk_cell BK141.out 7).trans rfl⟩ (fun hHeld => ?_)
                   clear hK K
                   refine norm_ (a' := ?_) ?_ ?_
                   rotate_left
                   ·show Act.put _ (some 34) _ = _
                    simp only [Act.put, List.setIfInBounds_toArray, List.set_cons_zero, List.set_cons_succ, i64_w, i32_w]
                    rfl
                   refine pure_ (i := 27) (N := some 35) (v := ?_) (a' := ?_) #[true, true, true, true, true, true, true, true, true, true, true, true, true, true, true, true, true, true, true, true, true, true, true, true, true, true, true, true, false] rfl rfl (any_of HT_.out (by kernel_rfl)) (fun _ _ _ h => h) (Or.inl ⟨by rfl, ?_⟩) ?_ ?_
                   rotate_left
                   ·intro w'
                    go_simp
                    with_reducible rfl
                   rotate_left
                   ·simp only [Act.put, List.setIfInBounds_toArray, List.set_cons_zero, List.set_cons_succ, i64_w, i32_w]
                    rfl
                   refine pure_ (i := 28) (N := some 3) (v := ?_) (a' := ?_) #[true, true, true, true, true, true, true, true, true, true, true, true, true, true, true, true, true, true, true, true, true, true, true, true, true, true, true, true, true] rfl rfl (any_of HT_.out (by kernel_rfl)) (fun _ _ _ h => h) (Or.inl ⟨by rfl, ?_⟩) ?_ ?_
                   rotate_left
                   ·intro w'
                    go_simp
                    with_reducible rfl
                   rotate_left
                   ·simp only [Act.put, List.setIfInBounds_toArray, List.set_cons_zero, List.set_cons_succ, i64_w, i32_w]
                    rfl
                   refine done_ (done_of HT_.out (by kernel_rfl)) ?_
                   have hcz72_0 : w71.cell? ⟨gb141, 0, none⟩ = some (.int .i64 a0_0) := (blk_cell BK141.out 0).trans rfl
                   have hcz72_1 : w71.cell? ⟨gb141, 1, none⟩ = some (.int .i64 a0_1) := (blk_cell BK141.out 1).trans rfl
                   have hcz72_2 : w71.cell? ⟨gb141, 2, none⟩ = some (.int .i64 a0_2) := (blk_cell BK141.out 2).trans rfl
                   have hcz72_3 : w71.cell? ⟨gb141, 3, none⟩ = some (.int .i64 a0_3) := (blk_cell BK141.out 3).trans rfl
                   have hcz72_4 : w71.cell? ⟨gb141, 4, none⟩ = some (.int .i64 a0_4) := (blk_cell BK141.out 4).trans rfl
                   have hcz72_5 : w71.cell? ⟨gb141, 5, none⟩ = some (.int .i64 a0_5) := (blk_cell BK141.out 5).trans rfl
                   have hcz72_6 : w71.cell? ⟨gb141, 6, none⟩ = some (.bool true) := (blk_cell BK141.out 6).trans rfl
                   have hcz72_7 : w71.cell? ⟨gb141, 7, none⟩ = some (.int .i64 a0_7) := (blk_cell BK141.out 7).trans rfl
                   have hfz72_0 := blk_frozen BK141.out 0
                   have hfz72_1 := blk_frozen BK141.out 1
                   have hfz72_2 := blk_frozen BK141.out 2
                   have hfz72_3 := blk_frozen BK141.out 3
                   have hfz72_4 := blk_frozen BK141.out 4
                   have hfz72_5 := blk_frozen BK141.out 5
                   have hfz72_6 := blk_frozen BK141.out 6
                   have hfz72_7 := blk_frozen BK141.out 7
                   try go_wp2_with (first | ((with_reducible refine gate_callee (f := 18) rfl ?_); refine goesL_ (some 64) rfl rfl Tryd.func18 (by kernel_rfl) rfl #[.int .i64 (wrap64 (Int.tdiv (ji56) 60)), .int .i64 2] rfl (by (try simp only [List.map_toArray, List.map_cons, List.map_nil]); first | done | (simp only [hji56]; rfl) | rfl | (simp only [List.length_drop, List.length_take]; rfl)) ?_; (with_reducible refine (impl_padded.calls (wrap64 (Int.tdiv (ji56) 60)) 2 t151 _ ?side1 A57.out).mono ?_); (case side1 => exact GL.below HGL.out (by repeat (first | (with_reducible first | exact HB.out | apply below_alloc | apply pw_below_drewN | apply below_drew1 | refine below_set ?_ GE141.out) | exact HB.out))); rintro e w73 ⟨rfl, hb⟩; refine ⟨_, rfl, ?_⟩; have n0_ := Aside0.mk (blk_below (g := gb141) (o := .cells #[.int .i64 a0_0, .int .i64 a0_1, .int .i64 a0_2, .int .i64 a0_3, .int .i64 a0_4, .int .i64 a0_5, .bool true, .int .i64 a0_7] 23 (0, 0)) (by (with_reducible repeat (first | refine blk_drewN ?_ _ | refine blk_drew ?_ | refine blk_alloc ?_ _)); exact BK141.out) hb); have n1_ := Aside0.mk (below_step (by repeat (first | (with_reducible first | exact HB.out | apply below_alloc | apply pw_below_drewN | apply below_drew1 | refine below_set ?_ GE141.out) | exact HB.out)) hb); clear BK141; clear HB; have BK141 := n0_; have HB := n1_; clear n0_ n1_; (try clear hb); (try clear hb2); (try clear hk); (try clear hi)) | ((with_reducible refine gate_callee (f := 18) rfl ?_); refine goesL_ (some 69) rfl rfl Tryd.func18 (by kernel_rfl) rfl #[.int .i64 (Int.tmod (ji56) 60), .int .i64 2] rfl (by (try simp only [List.map_toArray, List.map_cons, List.map_nil]); first | done | (simp only [hji56]; rfl) | rfl | (simp only [List.length_drop, List.length_take]; rfl)) ?_; (with_reducible refine (impl_padded.calls (Int.tmod (ji56) 60) 2 t152 _ ?side1 A60.out).mono ?_); (case side1 => exact GL.below HGL.out (by repeat (first | (with_reducible first | exact HB.out | apply below_alloc | apply pw_below_drewN | apply below_drew1 | refine below_set ?_ GE141.out) | exact HB.out))); rintro e w74 ⟨rfl, hb⟩; refine ⟨_, rfl, ?_⟩; have n0_ := Aside0.mk (blk_below (g := gb141) (o := .cells #[.int .i64 a0_0, .int .i64 a0_1, .int .i64 a0_2, .int .i64 a0_3, .int .i64 a0_4, .int .i64 a0_5, .bool true, .int .i64 a0_7] 23 (0, 0)) (by (with_reducible repeat (first | refine blk_drewN ?_ _ | refine blk_drew ?_ | refine blk_alloc ?_ _)); exact BK141.out) hb); have n1_ := Aside0.mk (below_step (by repeat (first | (with_reducible first | exact HB.out | apply below_alloc | apply pw_below_drewN | apply below_drew1 | refine below_set ?_ GE141.out) | exact HB.out)) hb); clear BK141; clear HB; have BK141 := n0_; have HB := n1_; clear n0_ n1_; (try clear hb); (try clear hb2); (try clear hk); (try clear hi)))
                   go_ret
                   exact ⟨by first | rfl | (simp [errW_none, errW_some] <;> rfl) | (simp only [← hji56]; first | rfl | (simp [errW_none, errW_some] <;> rfl)) | (simp [*, errW_none, errW_some] <;> rfl), by repeat (first | (with_reducible first | exact HB.out | apply below_alloc | apply pw_below_drewN | apply below_drew1 | refine below_set ?_ GE141.out) | exact HB.out)⟩
                  ·rw [if_neg c61] at H
                   exact absurd H (by simp)
                 ·rw [if_neg c59] at H
                  exact absurd H (by simp)
                ·rw [if_neg c58] at H
                 exact absurd H (by simp)
               ·rw [if_neg c55] at H
                exact absurd H (by simp)
            ·replace c20 := Bool.eq_false_iff.mpr c20
             subst c20
             have H1 : (some ((((((((((t143 ++ (⟨#[45]⟩ : ByteArray)) ++ t144) ++ (⟨#[45]⟩ : ByteArray)) ++ t145) ++ (⟨#[84]⟩ : ByteArray)) ++ t146) ++ (⟨#[58]⟩ : ByteArray)) ++ t147) ++ (⟨#[58]⟩ : ByteArray)) ++ t148)) = some r := by rw [if_neg (show ¬ (false = true) by decide)] at H; exact H
             clear H
             have H := H1
             clear H1
             obtain rfl := Option.some.inj H
             go_enter Tryd.func10, Tryd.ntmps10
             try go_wp2_with (first | ((with_reducible refine gate_dst (N := 1) rfl ?_); refine box_event ?hg (N := 1) ?hd (cs := #[.int .i64 a0_0, .int .i64 a0_1, .int .i64 a0_2, .int .i64 a0_3, .int .i64 a0_4, .int .i64 a0_5, .bool false, .int .i64 a0_7]) (t := 23) ?hr ?_; (case hd => rfl); (case hg => rfl); (case hr => first | (go_simp; done) | (go_simp; rfl)); intro gb141 hg w75 hbox hb; have n0_ := Aside0.mk (below_step (by repeat (first | (with_reducible first | exact HB.out | apply below_alloc | apply pw_below_drewN | apply below_drew1) | exact HB.out)) hb); have n1_ := Aside0.mk (hbox); have n2_ := Aside0.mk ((by rw [hg]; exact (below_size (by repeat (first | (with_reducible first | exact HB.out | apply below_alloc | apply pw_below_drewN | apply below_drew1) | exact HB.out))) : w.heap.size ≤ gb141)); have n3_ := Aside0.mk ((by rw [hg]; exact (below_size (by repeat (first | (with_reducible first | exact HB.out | apply below_alloc | apply pw_below_drewN | apply below_drew1) | exact HB.out))) : w.heap.size ≤ gb141)); clear HB; have HB := n0_; have BK141 := n1_; have GW141 := n2_; have GE141 := n3_; clear n0_ n1_ n2_ n3_; clear hb hbox hg; have hcz76_0 : w75.cell? ⟨gb141, 0, none⟩ = some (.int .i64 a0_0) := (blk_cell BK141.out 0).trans rfl; have hcz76_1 : w75.cell? ⟨gb141, 1, none⟩ = some (.int .i64 a0_1) := (blk_cell BK141.out 1).trans rfl; have hcz76_2 : w75.cell? ⟨gb141, 2, none⟩ = some (.int .i64 a0_2) := (blk_cell BK141.out 2).trans rfl; have hcz76_3 : w75.cell? ⟨gb141, 3, none⟩ = some (.int .i64 a0_3) := (blk_cell BK141.out 3).trans rfl; have hcz76_4 : w75.cell? ⟨gb141, 4, none⟩ = some (.int .i64 a0_4) := (blk_cell BK141.out 4).trans rfl; have hcz76_5 : w75.cell? ⟨gb141, 5, none⟩ = some (.int .i64 a0_5) := (blk_cell BK141.out 5).trans rfl; have hcz76_6 : w75.cell? ⟨gb141, 6, none⟩ = some (.bool false) := (blk_cell BK141.out 6).trans rfl; have hcz76_7 : w75.cell? ⟨gb141, 7, none⟩ = some (.int .i64 a0_7) := (blk_cell BK141.out 7).trans rfl; have hfz76_0 := blk_frozen BK141.out 0; have hfz76_1 := blk_frozen BK141.out 1; have hfz76_2 := blk_frozen BK141.out 2; have hfz76_3 := blk_frozen BK141.out 3; have hfz76_4 := blk_frozen BK141.out 4; have hfz76_5 := blk_frozen BK141.out 5; have hfz76_6 := blk_frozen BK141.out 6; have hfz76_7 := blk_frozen BK141.out 7) | ((with_reducible refine gate_callee (f := 16) rfl ?_); refine goesL_ (some 6) rfl rfl Tryd.func16 (by kernel_rfl) rfl #[.agg #[.int .i64 a0_0, .int .i64 a0_1, .int .i64 a0_2, .int .i64 a0_3, .int .i64 a0_4, .int .i64 a0_5, .bool false, .int .i64 a0_7]] rfl (by (try simp only [List.map_toArray, List.map_cons, List.map_nil]); first | done | rfl | (simp only [List.length_drop, List.length_take]; rfl)) ?_; (with_reducible refine (impl_DateOk.calls a0_0 a0_1 a0_2 a0_3 a0_4 a0_5 false a0_7 true _ A2.out).mono ?_); rintro e w77 ⟨rfl, hb⟩; refine ⟨_, rfl, ?_⟩; have n0_ := Aside0.mk (blk_below (g := gb141) (o := .cells #[.int .i64 a0_0, .int .i64 a0_1, .int .i64 a0_2, .int .i64 a0_3, .int .i64 a0_4, .int .i64 a0_5, .bool false, .int .i64 a0_7] 23 (0, 0)) (by (with_reducible repeat (first | refine blk_drewN ?_ _ | refine blk_drew ?_ | refine blk_alloc ?_ _)); exact BK141.out) hb); have n1_ := Aside0.mk (below_step (by repeat (first | (with_reducible first | exact HB.out | apply below_alloc | apply pw_below_drewN | apply below_drew1 | refine below_set ?_ GE141.out) | exact HB.out)) hb); clear BK141; clear HB; have BK141 := n0_; have HB := n1_; clear n0_ n1_; (try clear hb); (try clear hb2); (try clear hk); (try clear hi)))
             have n0_ := Aside0.mk (blk_drew BK141.out)
             have n1_ := Aside0.mk (below_drew1 HB.out)
             clear BK141
             clear HB
             have BK141 := n0_
             have HB := n1_
             clear n0_ n1_
             refine start_ (n := 29) (S := fun w' => w'.cell? ⟨gb141, 0, none⟩ = some (.int .i64 a0_0) ∧ w'.cell? ⟨gb141, 1, none⟩ = some (.int .i64 a0_1) ∧ w'.cell? ⟨gb141, 2, none⟩ = some (.int .i64 a0_2) ∧ w'.cell? ⟨gb141, 3, none⟩ = some (.int .i64 a0_3) ∧ w'.cell? ⟨gb141, 4, none⟩ = some (.int .i64 a0_4) ∧ w'.cell? ⟨gb141, 5, none⟩ = some (.int .i64 a0_5) ∧ w'.cell? ⟨gb141, 6, none⟩ = some (.bool false) ∧ w'.cell? ⟨gb141, 7, none⟩ = some (.int .i64 a0_7)) (ds := []) #[false, false, false, false, false, false, false, false, false, false, false, false, false, false, false, false, false, false, false, false, false, false, false, false, false, false, false, false, false] (by kernel_rfl) rfl rfl ⟨(blk_cell BK141.out 0).trans rfl, (blk_cell BK141.out 1).trans rfl, (blk_cell BK141.out 2).trans rfl, (blk_cell BK141.out 3).trans rfl, (blk_cell BK141.out 4).trans rfl, (blk_cell BK141.out 5).trans rfl, (blk_cell BK141.out 6).trans rfl, (blk_cell BK141.out 7).trans rfl⟩ (fun hHeld => ?_); refine with_tabW impl_DateText.tab3 impl_DateText.bits3 (fun HT_ HW_ => ?_)
             generalize w77.drew = w78 at BK141 HB hHeld ⊢
             refine pure_ (i := 0) (N := some 8) (v := ?_) (a' := ?_) #[true, false, false, false, false, false, false, false, false, false, false, false, false, false, false, false, false, false, false, false, false, false, false, false, false, false, false, false, false] rfl rfl (any_of HT_.out (by kernel_rfl)) (fun _ _ _ h => h) (Or.inl ⟨by rfl, ?_⟩) ?_ ?_
             rotate_left
             ·intro w'
              go_simp
              with_reducible rfl
             rotate_left
             ·simp only [Act.put, List.setIfInBounds_toArray, List.set_cons_zero, List.set_cons_succ, i64_w, i32_w]
              rfl
             refine pure_ (i := 4) (N := some 12) (v := ?_) (a' := ?_) #[true, false, false, false, true, false, false, false, false, false, false, false, false, false, false, false, false, false, false, false, false, false, false, false, false, false, false, false, false] rfl rfl (any_of HT_.out (by kernel_rfl)) (fun _ _ _ h => h) (Or.inl ⟨by rfl, ?_⟩) ?_ ?_
             rotate_left
             ·intro w'
              go_simp
              with_reducible rfl
             rotate_left
             ·simp only [Act.put, List.setIfInBounds_toArray, List.set_cons_zero, List.set_cons_succ, i64_w, i32_w]
              rfl
             refine pure_ (i := 9) (N := some 17) (v := ?_) (a' := ?_) #[true, false, false, false, true, false, false, false, false, true, false, false, false, false, false, false, false, false, false, false, false, false, false, false, false, false, false, false, false] rfl rfl (any_of HT_.out (by kernel_rfl)) (fun _ _ _ h => h) (Or.inl ⟨by rfl, ?_⟩) ?_ ?_
             rotate_left
             ·intro w'
              go_simp
              with_reducible rfl
             rotate_left
             ·simp only [Act.put, List.setIfInBounds_toArray, List.set_cons_zero, List.set_cons_succ, i64_w, i32_w]
              rfl
             refine pure_ (i := 14) (N := some 22) (v := ?_) (a' := ?_) #[true, false, false, false, true, false, false, false, false, true, false, false, false, false, true, false, false, false, false, false, false, false, false, false, false, false, false, false, false] rfl rfl (any_of HT_.out (by kernel_rfl)) (fun _ _ _ h => h) (Or.inl ⟨by rfl, ?_⟩) ?_ ?_
             rotate_left
             ·intro w'
              go_simp
              with_reducible rfl
             rotate_left
             ·simp only [Act.put, List.setIfInBounds_toArray, List.set_cons_zero, List.set_cons_succ, i64_w, i32_w]
              rfl
             refine pure_ (i := 19) (N := some 27) (v := ?_) (a' := ?_) #[true, false, false, false, true, false, false, false, false, true, false, false, false, false, true, false, false, false, false, true, false, false, false, false, false, false, false, false, false] rfl rfl (any_of HT_.out (by kernel_rfl)) (fun _ _ _ h => h) (Or.inl ⟨by rfl, ?_⟩) ?_ ?_
             rotate_left
             ·intro w'
              go_simp
              with_reducible rfl
             rotate_left
             ·simp only [Act.put, List.setIfInBounds_toArray, List.set_cons_zero, List.set_cons_succ, i64_w, i32_w]
              rfl
             refine pure_ (i := 24) (N := some 32) (v := ?_) (a' := ?_) #[true, false, false, false, true, false, false, false, false, true, false, false, false, false, true, false, false, false, false, true, false, false, false, false, true, false, false, false, false] rfl rfl (any_of HT_.out (by kernel_rfl)) (fun _ _ _ h => h) (Or.inl ⟨by rfl, ?_⟩) ?_ ?_
             rotate_left
             ·intro w'
              go_simp
              with_reducible rfl
             rotate_left
             ·simp only [Act.put, List.setIfInBounds_toArray, List.set_cons_zero, List.set_cons_succ, i64_w, i32_w]
              rfl
             refine take_ (i := 1) (N := some 9) (v := ?_) (a' := ?_) #[true, true, false, false, true, false, false, false, false, true, false, false, false, false, true, false, false, false, false, true, false, false, false, false, true, false, false, false, false] rfl rfl (take_ofW HT_.out HW_.out (by kernel_rfl)) (fun _ _ _ h => h) (Or.inl ⟨by rfl, ?_⟩) hHeld ?_ ?_
             rotate_left
             ·rintro w' ⟨s0, s1, s2, s3, s4, s5, s6, s7⟩
              go_simp
              with_reducible rfl
             rotate_left
             ·simp only [Act.put, List.setIfInBounds_toArray, List.set_cons_zero, List.set_cons_succ, i64_w, i32_w]
              rfl
             refine take_ (i := 5) (N := some 13) (v := ?_) (a' := ?_) #[true, true, false, false, true, true, false, false, false, true, false, false, false, false, true, false, false, false, false, true, false, false, false, false, true, false, false, false, false] rfl rfl (take_ofW HT_.out HW_.out (by kernel_rfl)) (fun _ _ _ h => h) (Or.inl ⟨by rfl, ?_⟩) hHeld ?_ ?_
             rotate_left
             ·rintro w' ⟨s0, s1, s2, s3, s4, s5, s6, s7⟩
              go_simp
              with_reducible rfl
             rotate_left
             ·simp only [Act.put, List.setIfInBounds_toArray, List.set_cons_zero, List.set_cons_succ, i64_w, i32_w]
              rfl
             refine take_ (i := 10) (N := some 18) (v := ?_) (a' := ?_) #[true, true, false, false, true, true, false, false, false, true, true, false, false, false, true, false, false, false, false, true, false, false, false, false, true, false, false, false, false] rfl rfl (take_ofW HT_.out HW_.out (by kernel_rfl)) (fun _ _ _ h => h) (Or.inl ⟨by rfl, ?_⟩) hHeld ?_ ?_
             rotate_left
             ·rintro w' ⟨s0, s1, s2, s3, s4, s5, s6, s7⟩
              go_simp
              with_reducible rfl
             rotate_left
             ·simp only [Act.put, List.setIfInBounds_toArray, List.set_cons_zero, List.set_cons_succ, i64_w, i32_w]
              rfl
             refine take_ (i := 15) (N := some 23) (v := ?_) (a' := ?_) #[true, true, false, false, true, true, false, false, false, true, true, false, false, false, true, true, false, false, false, true, false, false, false, false, true, false, false, false, false] rfl rfl (take_ofW HT_.out HW_.out (by kernel_rfl)) (fun _ _ _ h => h) (Or.inl ⟨by rfl, ?_⟩) hHeld ?_ ?_
             rotate_left
             ·rintro w' ⟨s0, s1, s2, s3, s4, s5, s6, s7⟩
              go_simp
              with_reducible rfl
             rotate_left
             ·simp only [Act.put, List.setIfInBounds_toArray, List.set_cons_zero, List.set_cons_succ, i64_w, i32_w]
              rfl
             refine take_ (i := 20) (N := some 28) (v := ?_) (a' := ?_) #[true, true, false, false, true, true, false, false, false, true, true, false, false, false, true, true, false, false, false, true, true, false, false, false, true, false, false, false, false] rfl rfl (take_ofW HT_.out HW_.out (by kernel_rfl)) (fun _ _ _ h => h) (Or.inl ⟨by rfl, ?_⟩) hHeld ?_ ?_
             rotate_left
             ·rintro w' ⟨s0, s1, s2, s3, s4, s5, s6, s7⟩
              go_simp
              with_reducible rfl
             rotate_left
             ·simp only [Act.put, List.setIfInBounds_toArray, List.set_cons_zero, List.set_cons_succ, i64_w, i32_w]
              rfl
             refine take_ (i := 25) (N := some 33) (v := ?_) (a' := ?_) #[true, true, false, false, true, true, false, false, false, true, true, false, false, false, true, true, false, false, false, true, true, false, false, false, true, true, false, false, false] rfl rfl (take_ofW HT_.out HW_.out (by kernel_rfl)) (fun _ _ _ h => h) (Or.inl ⟨by rfl, ?_⟩) hHeld ?_ ?_
             rotate_left
             ·rintro w' ⟨s0, s1, s2, s3, s4, s5, s6, s7⟩
              go_simp
              with_reducible rfl
             rotate_left
             ·simp only [Act.put, List.setIfInBounds_toArray, List.set_cons_zero, List.set_cons_succ, i64_w, i32_w]
              rfl
             refine one_ (i := 2) (N := some 10) #[true, true, true, false, true, true, false, false, false, true, true, false, false, false, true, true, false, false, false, true, true, false, false, false, true, true, false, false, false] rfl rfl (one_of HT_.out (by kernel_rfl)) (by decide) (fun K hK => ?_)
             refine goes_ Tryd.func18 (by kernel_rfl) rfl #[.int .i64 a0_0, .int .i64 4] (by rfl) rfl rfl (by (try simp only [List.map_toArray, List.map_cons, List.map_nil]); first | done | rfl | (simp only [List.length_drop, List.length_take]; rfl)) ?_
             with_reducible refine (impl_padded.calls a0_0 4 t143 _ ?side1 A4.out).mono ?_
             (case side1 => exact GL.below HGL.out (by repeat (first | (with_reducible first | exact HB.out | apply below_alloc | apply pw_below_drewN | apply below_drew1 | refine below_set ?_ GE141.out) | exact HB.out)))
             rintro e w79 ⟨rfl, hb⟩
             refine ⟨_, rfl, ?_⟩
             have n0_ := Aside0.mk (blk_below (g := gb141) (o := .cells #[.int .i64 a0_0, .int .i64 a0_1, .int .i64 a0_2, .int .i64 a0_3, .int .i64 a0_4, .int .i64 a0_5, .bool false, .int .i64 a0_7] 23 (0, 0)) (by (with_reducible repeat (first | refine blk_drewN ?_ _ | refine blk_drew ?_ | refine blk_alloc ?_ _)); exact BK141.out) hb)
             have n1_ := Aside0.mk (below_step (by repeat (first | (with_reducible first | exact HB.out | apply below_alloc | apply pw_below_drewN | apply below_drew1 | refine below_set ?_ GE141.out) | exact HB.out)) hb)
             clear BK141
             clear HB
             have BK141 := n0_
             have HB := n1_
             clear n0_ n1_
             (try clear hb)
             (try clear hb2)
             (try clear hk)
             (try clear hi)
             refine hK.out _ _ ⟨(blk_cell BK141.out 0).trans rfl, (blk_cell BK141.out 1).trans rfl, (blk_cell BK141.out 2).trans rfl, (blk_cell BK141.out 3).trans rfl, (blk_cell BK141.out 4).trans rfl, (blk_cell BK141.out 5).trans rfl, (blk_cell BK141.out 6).trans rfl, (blk_cell BK141.out 7).trans rfl⟩ (fun hHeld => ?_)
             clear hK K
             refine norm_ (a' := ?_) ?_ ?_
             rotate_left
             ·show Act.put _ (some 10) _ = _
              simp only [Act.put, List.setIfInBounds_toArray, List.set_cons_zero, List.set_cons_succ, i64_w, i32_w]
              rfl
             refine pure_ (i := 3) (N := some 11) (v := ?_) (a' := ?_) #[true, true, true, true, true, true, false, false, false, true, true, false, false, false, true, true, false, false, false, true, true, false, false, false, true, true, false, false, false] rfl rfl (any_of HT_.out (by kernel_rfl)) (fun _ _ _ h => h) (Or.inl ⟨by rfl, ?_⟩) ?_ ?_
             rotate_left
             ·intro w'
              go_simp
              with_reducible rfl
             rotate_left
             ·simp only [Act.put, List.setIfInBounds_toArray, List.set_cons_zero, List.set_cons_succ, i64_w, i32_w]
              rfl
             refine one_ (i := 6) (N := some 14) #[true, true, true, true, true, true, true, false, false, true, true, false, false, false, true, true, false, false, false, true, true, false, false, false, true, true, false, false, false] rfl rfl (one_of HT_.out (by kernel_rfl)) (by decide) (fun K hK => ?_)
             refine goes_ Tryd.func18 (by kernel_rfl) rfl #[.int .i64 a0_1, .int .i64 2] (by rfl) rfl rfl (by (try simp only [List.map_toArray, List.map_cons, List.map_nil]); first | done | rfl | (simp only [List.length_drop, List.length_take]; rfl)) ?_
             with_reducible refine (impl_padded.calls a0_1 2 t144 _ ?side1 A6.out).mono ?_
             (case side1 => exact GL.below HGL.out (by repeat (first | (with_reducible first | exact HB.out | apply below_alloc | apply pw_below_drewN | apply below_drew1 | refine below_set ?_ GE141.out) | exact HB.out)))
             rintro e w80 ⟨rfl, hb⟩
             refine ⟨_, rfl, ?_⟩
             have n0_ := Aside0.mk (blk_below (g := gb141) (o := .cells #[.int .i64 a0_0, .int .i64 a0_1, .int .i64 a0_2, .int .i64 a0_3, .int .i64 a0_4, .int .i64 a0_5, .bool false, .int .i64 a0_7] 23 (0, 0)) (by (with_reducible repeat (first | refine blk_drewN ?_ _ | refine blk_drew ?_ | refine blk_alloc ?_ _)); exact BK141.out) hb)
             have n1_ := Aside0.mk (below_step (by repeat (first | (with_reducible first | exact HB.out | apply below_alloc | apply pw_below_drewN | apply below_drew1 | refine below_set ?_ GE141.out) | exact HB.out)) hb)
             clear BK141
             clear HB
             have BK141 := n0_
             have HB := n1_
             clear n0_ n1_
             (try clear hb)
             (try clear hb2)
             (try clear hk)
             (try clear hi)
             refine hK.out _ _ ⟨(blk_cell BK141.out 0).trans rfl, (blk_cell BK141.out 1).trans rfl, (blk_cell BK141.out 2).trans rfl, (blk_cell BK141.out 3).trans rfl, (blk_cell BK141.out 4).trans rfl, (blk_cell BK141.out 5).trans rfl, (blk_cell BK141.out 6).trans rfl, (blk_cell BK141.out 7).trans rfl⟩ (fun hHeld => ?_)
             clear hK K
             refine norm_ (a' := ?_) ?_ ?_
             rotate_left
             ·show Act.put _ (some 14) _ = _
              simp only [Act.put, List.setIfInBounds_toArray, List.set_cons_zero, List.set_cons_succ, i64_w, i32_w]
              rfl
             refine pure_ (i := 7) (N := some 15) (v := ?_) (a' := ?_) #[true, true, true, true, true, true, true, true, false, true, true, false, false, false, true, true, false, false, false, true, true, false, false, false, true, true, false, false, false] rfl rfl (any_of HT_.out (by kernel_rfl)) (fun _ _ _ h => h) (Or.inl ⟨by rfl, ?_⟩) ?_ ?_
             rotate_left
             ·intro w'
              go_simp
              with_reducible rfl
             rotate_left
             ·simp only [Act.put, List.setIfInBounds_toArray, List.set_cons_zero, List.set_cons_succ, i64_w, i32_w]
              rfl
             refine pure_ (i := 8) (N := some 16) (v := ?_) (a' := ?_) #[true, true, true, true, true, true, true, true, true, true, true, false, false, false, true, true, false, false, false, true, true, false, false, false, true, true, false, false, false] rfl rfl (any_of HT_.out (by kernel_rfl)) (fun _ _ _ h => h) (Or.inl ⟨by rfl, ?_⟩) ?_ ?_
             rotate_left
             ·intro w'
              go_simp
              with_reducible rfl
             rotate_left
             ·simp only [Act.put, List.setIfInBounds_toArray, List.set_cons_zero, List.set_cons_succ, i64_w, i32_w]
              rfl
             refine one_ (i := 11) (N := some 19) #[true, true, true, true, true, true, true, true, true, true, true, true, false, false, true, true, false, false, false, true, true, false, false, false, true, true, false, false, false] rfl rfl (one_of HT_.out (by kernel_rfl)) (by decide) (fun K hK => ?_)
             refine goes_ Tryd.func18 (by kernel_rfl) rfl #[.int .i64 a0_2, .int .i64 2] (by rfl) rfl rfl (by (try simp only [List.map_toArray, List.map_cons, List.map_nil]); first | done | rfl | (simp only [List.length_drop, List.length_take]; rfl)) ?_
             with_reducible refine (impl_padded.calls a0_2 2 t145 _ ?side1 A9.out).mono ?_
             (case side1 => exact GL.below HGL.out (by repeat (first | (with_reducible first | exact HB.out | apply below_alloc | apply pw_below_drewN | apply below_drew1 | refine below_set ?_ GE141.out) | exact HB.out)))
             rintro e w81 ⟨rfl, hb⟩
             refine ⟨_, rfl, ?_⟩
             have n0_ := Aside0.mk (blk_below (g := gb141) (o := .cells #[.int .i64 a0_0, .int .i64 a0_1, .int .i64 a0_2, .int .i64 a0_3, .int .i64 a0_4, .int .i64 a0_5, .bool false, .int .i64 a0_7] 23 (0, 0)) (by (with_reducible repeat (first | refine blk_drewN ?_ _ | refine blk_drew ?_ | refine blk_alloc ?_ _)); exact BK141.out) hb)
             have n1_ := Aside0.mk (below_step (by repeat (first | (with_reducible first | exact HB.out | apply below_alloc | apply pw_below_drewN | apply below_drew1 | refine below_set ?_ GE141.out) | exact HB.out)) hb)
             clear BK141
             clear HB
             have BK141 := n0_
             have HB := n1_
             clear n0_ n1_
             (try clear hb)
             (try clear hb2)
             (try clear hk)
             (try clear hi)
             refine hK.out _ _ ⟨(blk_cell BK141.out 0).trans rfl, (blk_cell BK141.out 1).trans rfl, (blk_cell BK141.out 2).trans rfl, (blk_cell BK141.out 3).trans rfl, (blk_cell BK141.out 4).trans rfl, (blk_cell BK141.out 5).trans rfl, (blk_cell BK141.out 6).trans rfl, (blk_cell BK141.out 7).trans rfl⟩ (fun hHeld => ?_)
             clear hK K
             refine norm_ (a' := ?_) ?_ ?_
             rotate_left
             ·show Act.put _ (some 19) _ = _
              simp only [Act.put, List.setIfInBounds_toArray, List.set_cons_zero, List.set_cons_succ, i64_w, i32_w]
              rfl
             refine pure_ (i := 12) (N := some 20) (v := ?_) (a' := ?_) #[true, true, true, true, true, true, true, true, true, true, true, true, true, false, true, true, false, false, false, true, true, false, false, false, true, true, false, false, false] rfl rfl (any_of HT_.out (by kernel_rfl)) (fun _ _ _ h => h) (Or.inl ⟨by rfl, ?_⟩) ?_ ?_
             rotate_left
             ·intro w'
              go_simp
              with_reducible rfl
             rotate_left
             ·simp only [Act.put, List.setIfInBounds_toArray, List.set_cons_zero, List.set_cons_succ, i64_w, i32_w]
              rfl
             refine pure_ (i := 13) (N := some 21) (v := ?_) (a' := ?_) #[true, true, true, true, true, true, true, true, true, true, true, true, true, true, true, true, false, false, false, true, true, false, false, false, true, true, false, false, false] rfl rfl (any_of HT_.out (by kernel_rfl)) (fun _ _ _ h => h) (Or.inl ⟨by rfl, ?_⟩) ?_ ?_
             rotate_left
             ·intro w'
              go_simp
              with_reducible rfl
             rotate_left
             ·simp only [Act.put, List.setIfInBounds_toArray, List.set_cons_zero, List.set_cons_succ, i64_w, i32_w]
              rfl
             refine one_ (i := 16) (N := some 24) #[true, true, true, true, true, true, true, true, true, true, true, true, true, true, true, true, true, false, false, true, true, false, false, false, true, true, false, false, false] rfl rfl (one_of HT_.out (by kernel_rfl)) (by decide) (fun K hK => ?_)
             refine goes_ Tryd.func18 (by kernel_rfl) rfl #[.int .i64 a0_3, .int .i64 2] (by rfl) rfl rfl (by (try simp only [List.map_toArray, List.map_cons, List.map_nil]); first | done | rfl | (simp only [List.length_drop, List.length_take]; rfl)) ?_
             with_reducible refine (impl_padded.calls a0_3 2 t146 _ ?side1 A12.out).mono ?_
             (case side1 => exact GL.below HGL.out (by repeat (first | (with_reducible first | exact HB.out | apply below_alloc | apply pw_below_drewN | apply below_drew1 | refine below_set ?_ GE141.out) | exact HB.out)))
             rintro e w82 ⟨rfl, hb⟩
             refine ⟨_, rfl, ?_⟩
             have n0_ := Aside0.mk (blk_below (g := gb141) (o := .cells #[.int .i64 a0_0, .int .i64 a0_1, .int .i64 a0_2, .int .i64 a0_3, .int .i64 a0_4, .int .i64 a0_5, .bool false, .int .i64 a0_7] 23 (0, 0)) (by (with_reducible repeat (first | refine blk_drewN ?_ _ | refine blk_drew ?_ | refine blk_alloc ?_ _)); exact BK141.out) hb)
             have n1_ := Aside0.mk (below_step (by repeat (first | (with_reducible first | exact HB.out | apply below_alloc | apply pw_below_drewN | apply below_drew1 | refine below_set ?_ GE141.out) | exact HB.out)) hb)
             clear BK141
             clear HB
             have BK141 := n0_
             have HB := n1_
             clear n0_ n1_
             (try clear hb)
             (try clear hb2)
             (try clear hk)
             (try clear hi)
             refine hK.out _ _ ⟨(blk_cell BK141.out 0).trans rfl, (blk_cell BK141.out 1).trans rfl, (blk_cell BK141.out 2).trans rfl, (blk_cell BK141.out 3).trans rfl, (blk_cell BK141.out 4).trans rfl, (blk_cell BK141.out 5).trans rfl, (blk_cell BK141.out 6).trans rfl, (blk_cell BK141.out 7).trans rfl⟩ (fun hHeld => ?_)
             clear hK K
             refine norm_ (a' := ?_) ?_ ?_
             rotate_left
             ·show Act.put _ (some 24) _ = _
              simp only [Act.put, List.setIfInBounds_toArray, List.set_cons_zero, List.set_cons_succ, i64_w, i32_w]
              rfl
             refine pure_ (i := 17) (N := some 25) (v := ?_) (a' := ?_) #[true, true, true, true, true, true, true, true, true, true, true, true, true, true, true, true, true, true, false, true, true, false, false, false, true, true, false, false, false] rfl rfl (any_of HT_.out (by kernel_rfl)) (fun _ _ _ h => h) (Or.inl ⟨by rfl, ?_⟩) ?_ ?_
             rotate_left
             ·intro w'
              go_simp
              with_reducible rfl
             rotate_left
             ·simp only [Act.put, List.setIfInBounds_toArray, List.set_cons_zero, List.set_cons_succ, i64_w, i32_w]
              rfl
             refine pure_ (i := 18) (N := some 26) (v := ?_) (a' := ?_) #[true, true, true, true, true, true, true, true, true, true, true, true, true, true, true, true, true, true, true, true, true, false, false, false, true, true, false, false, false] rfl rfl (any_of HT_.out (by kernel_rfl)) (fun _ _ _ h => h) (Or.inl ⟨by rfl, ?_⟩) ?_ ?_
             rotate_left
             ·intro w'
              go_simp
              with_reducible rfl
             rotate_left
             ·simp only [Act.put, List.setIfInBounds_toArray, List.set_cons_zero, List.set_cons_succ, i64_w, i32_w]
              rfl
             refine one_ (i := 21) (N := some 29) #[true, true, true, true, true, true, true, true, true, true, true, true, true, true, true, true, true, true, true, true, true, true, false, false, true, true, false, false, false] rfl rfl (one_of HT_.out (by kernel_rfl)) (by decide) (fun K hK => ?_)
             refine goes_ Tryd.func18 (by kernel_rfl) rfl #[.int .i64 a0_4, .int .i64 2] (by rfl) rfl rfl (by (try simp only [List.map_toArray, List.map_cons, List.map_nil]); first | done | rfl | (simp only [List.length_drop, List.length_take]; rfl)) ?_
             with_reducible refine (impl_padded.calls a0_4 2 t147 _ ?side1 A15.out).mono ?_
             (case side1 => exact GL.below HGL.out (by repeat (first | (with_reducible first | exact HB.out | apply below_alloc | apply pw_below_drewN | apply below_drew1 | refine below_set ?_ GE141.out) | exact HB.out)))
             rintro e w83 ⟨rfl, hb⟩
             refine ⟨_, rfl, ?_⟩
             have n0_ := Aside0.mk (blk_below (g := gb141) (o := .cells #[.int .i64 a0_0, .int .i64 a0_1, .int .i64 a0_2, .int .i64 a0_3, .int .i64 a0_4, .int .i64 a0_5, .bool false, .int .i64 a0_7] 23 (0, 0)) (by (with_reducible repeat (first | refine blk_drewN ?_ _ | refine blk_drew ?_ | refine blk_alloc ?_ _)); exact BK141.out) hb)
             have n1_ := Aside0.mk (below_step (by repeat (first | (with_reducible first | exact HB.out | apply below_alloc | apply pw_below_drewN | apply below_drew1 | refine below_set ?_ GE141.out) | exact HB.out)) hb)
             clear BK141
             clear HB
             have BK141 := n0_
             have HB := n1_
             clear n0_ n1_
             (try clear hb)
             (try clear hb2)
             (try clear hk)
             (try clear hi)
             refine hK.out _ _ ⟨(blk_cell BK141.out 0).trans rfl, (blk_cell BK141.out 1).trans rfl, (blk_cell BK141.out 2).trans rfl, (blk_cell BK141.out 3).trans rfl, (blk_cell BK141.out 4).trans rfl, (blk_cell BK141.out 5).trans rfl, (blk_cell BK141.out 6).trans rfl, (blk_cell BK141.out 7).trans rfl⟩ (fun hHeld => ?_)
             clear hK K
             refine norm_ (a' := ?_) ?_ ?_
             rotate_left
             ·show Act.put _ (some 29) _ = _
              simp only [Act.put, List.setIfInBounds_toArray, List.set_cons_zero, List.set_cons_succ, i64_w, i32_w]
              rfl
             refine pure_ (i := 22) (N := some 30) (v := ?_) (a' := ?_) #[true, true, true, true, true, true, true, true, true, true, true, true, true, true, true, true, true, true, true, true, true, true, true, false, true, true, false, false, false] rfl rfl (any_of HT_.out (by kernel_rfl)) (fun _ _ _ h => h) (Or.inl ⟨by rfl, ?_⟩) ?_ ?_
             rotate_left
             ·intro w'
              go_simp
              with_reducible rfl
             rotate_left
             ·simp only [Act.put, List.setIfInBounds_toArray, List.set_cons_zero, List.set_cons_succ, i64_w, i32_w]
              rfl
             refine pure_ (i := 23) (N := some 31) (v := ?_) (a' := ?_) #[true, true, true, true, true, true, true, true, true, true, true, true, true, true, true, true, true, true, true, true, true, true, true, true, true, true, false, false, false] rfl rfl (any_of HT_.out (by kernel_rfl)) (fun _ _ _ h => h) (Or.inl ⟨by rfl, ?_⟩) ?_ ?_
             rotate_left
             ·intro w'
              go_simp
              with_reducible rfl
             rotate_left
             ·simp only [Act.put, List.setIfInBounds_toArray, List.set_cons_zero, List.set_cons_succ, i64_w, i32_w]
              rfl
             refine one_ (i := 26) (N := some 34) #[true, true, true, true, true, true, true, true, true, true, true, true, true, true, true, true, true, true, true, true, true, true, true, true, true, true, true, false, false] rfl rfl (one_of HT_.out (by kernel_rfl)) (by decide) (fun K hK => ?_)
             refine goes_ Tryd.func18 (by kernel_rfl) rfl #[.int .i64 a0_5, .int .i64 2] (by rfl) rfl rfl (by (try simp only [List.map_toArray, List.map_cons, List.map_nil]); first | done | rfl | (simp only [List.length_drop, List.length_take]; rfl)) ?_
             with_reducible refine (impl_padded.calls a0_5 2 t148 _ ?side1 A18.out).mono ?_
             (case side1 => exact GL.below HGL.out (by repeat (first | (with_reducible first | exact HB.out | apply below_alloc | apply pw_below_drewN | apply below_drew1 | refine below_set ?_ GE141.out) | exact HB.out)))
             rintro e w84 ⟨rfl, hb⟩
             refine ⟨_, rfl, ?_⟩
             have n0_ := Aside0.mk (blk_below (g := gb141) (o := .cells #[.int .i64 a0_0, .int .i64 a0_1, .int .i64 a0_2, .int .i64 a0_3, .int .i64 a0_4, .int .i64 a0_5, .bool false, .int .i64 a0_7] 23 (0, 0)) (by (with_reducible repeat (first | refine blk_drewN ?_ _ | refine blk_drew ?_ | refine blk_alloc ?_ _)); exact BK141.out) hb)
             have n1_ := Aside0.mk (below_step (by repeat (first | (with_reducible first | exact HB.out | apply below_alloc | apply pw_below_drewN | apply below_drew1 | refine below_set ?_ GE141.out) | exact HB.out)) hb)
             clear BK141
             clear HB
             have BK141 := n0_
             have HB := n1_
             clear n0_ n1_
             (try clear hb)
             (try clear hb2)
             (try clear hk)
             (try clear hi)
             refine hK.out _ _ ⟨(blk_cell BK141.out 0).trans rfl, (blk_cell BK141.out 1).trans rfl, (blk_cell BK141.out 2).trans rfl, (blk_cell BK141.out 3).trans rfl, (blk_cell BK141.out 4).trans rfl, (blk_cell BK141.out 5).trans rfl, (blk_cell BK141.out 6).trans rfl, (blk_cell BK141.out 7).trans rfl⟩ (fun hHeld => ?_)
             clear hK K
             refine norm_ (a' := ?_) ?_ ?_
             rotate_left
             ·show Act.put _ (some 34) _ = _
              simp only [Act.put, List.setIfInBounds_toArray, List.set_cons_zero, List.set_cons_succ, i64_w, i32_w]
              rfl
             refine pure_ (i := 27) (N := some 35) (v := ?_) (a' := ?_) #[true, true, true, true, true, true, true, true, true, true, true, true, true, true, true, true, true, true, true, true, true, true, true, true, true, true, true, true, false] rfl rfl (any_of HT_.out (by kernel_rfl)) (fun _ _ _ h => h) (Or.inl ⟨by rfl, ?_⟩) ?_ ?_
             rotate_left
             ·intro w'
              go_simp
              with_reducible rfl
             rotate_left
             ·simp only [Act.put, List.setIfInBounds_toArray, List.set_cons_zero, List.set_cons_succ, i64_w, i32_w]
              rfl
             refine pure_ (i := 28) (N := some 3) (v := ?_) (a' := ?_) #[true, true, true, true, true, true, true, true, true, true, true, true, true, true, true, true, true, true, true, true, true, true, true, true, true, true, true, true, true] rfl rfl (any_of HT_.out (by kernel_rfl)) (fun _ _ _ h => h) (Or.inl ⟨by rfl, ?_⟩) ?_ ?_
             rotate_left
             ·intro w'
              go_simp
              with_reducible rfl
             rotate_left
             ·simp only [Act.put, List.setIfInBounds_toArray, List.set_cons_zero, List.set_cons_succ, i64_w, i32_w]
              rfl
             refine done_ (done_of HT_.out (by kernel_rfl)) ?_
             have hcz85_0 : w84.cell? ⟨gb141, 0, none⟩ = some (.int .i64 a0_0) := (blk_cell BK141.out 0).trans rfl
             have hcz85_1 : w84.cell? ⟨gb141, 1, none⟩ = some (.int .i64 a0_1) := (blk_cell BK141.out 1).trans rfl
             have hcz85_2 : w84.cell? ⟨gb141, 2, none⟩ = some (.int .i64 a0_2) := (blk_cell BK141.out 2).trans rfl
             have hcz85_3 : w84.cell? ⟨gb141, 3, none⟩ = some (.int .i64 a0_3) := (blk_cell BK141.out 3).trans rfl
             have hcz85_4 : w84.cell? ⟨gb141, 4, none⟩ = some (.int .i64 a0_4) := (blk_cell BK141.out 4).trans rfl
             have hcz85_5 : w84.cell? ⟨gb141, 5, none⟩ = some (.int .i64 a0_5) := (blk_cell BK141.out 5).trans rfl
             have hcz85_6 : w84.cell? ⟨gb141, 6, none⟩ = some (.bool false) := (blk_cell BK141.out 6).trans rfl
             have hcz85_7 : w84.cell? ⟨gb141, 7, none⟩ = some (.int .i64 a0_7) := (blk_cell BK141.out 7).trans rfl
             have hfz85_0 := blk_frozen BK141.out 0
             have hfz85_1 := blk_frozen BK141.out 1
             have hfz85_2 := blk_frozen BK141.out 2
             have hfz85_3 := blk_frozen BK141.out 3
             have hfz85_4 := blk_frozen BK141.out 4
             have hfz85_5 := blk_frozen BK141.out 5
             have hfz85_6 := blk_frozen BK141.out 6
             have hfz85_7 := blk_frozen BK141.out 7
             try go_wp2
             go_ret
             exact ⟨by first | rfl | (simp [*] <;> rfl), by repeat (first | (with_reducible first | exact HB.out | apply below_alloc | apply pw_below_drewN | apply below_drew1 | refine below_set ?_ GE141.out) | exact HB.out)⟩
           ·rw [if_neg c19] at H
            exact absurd H (by simp)
          ·rw [if_neg c17] at H
           exact absurd H (by simp)
         ·rw [if_neg c16] at H
          exact absurd H (by simp)
        ·rw [if_neg c14] at H
         exact absurd H (by simp)
       ·rw [if_neg c13] at H
        exact absurd H (by simp)
      ·rw [if_neg c11] at H
       exact absurd H (by simp)
     ·rw [if_neg c10] at H
      exact absurd H (by simp)
    ·rw [if_neg c8] at H
     exact absurd H (by simp)
   ·rw [if_neg c7] at H
    exact absurd H (by simp)
  ·rw [if_neg c5] at H
   exact absurd H (by simp)
 ·replace c3 := Bool.eq_false_iff.mpr c3
  subst c3
  have H1 : (some (⟨#[]⟩ : ByteArray)) = some r := by rw [if_neg (show ¬ (false = true) by decide)] at H; exact H
  clear H
  have H := H1
  clear H1
  obtain rfl := Option.some.inj H
  go_enter Tryd.func10, Tryd.ntmps10
  go_wp2_with (first | ((with_reducible refine gate_dst (N := 1) rfl ?_); refine box_event ?hg (N := 1) ?hd (cs := #[.int .i64 a0_0, .int .i64 a0_1, .int .i64 a0_2, .int .i64 a0_3, .int .i64 a0_4, .int .i64 a0_5, .bool a0_6, .int .i64 a0_7]) (t := 23) ?hr ?_; (case hd => rfl); (case hg => rfl); (case hr => first | (go_simp; done) | (go_simp; rfl)); intro gb141 hg w86 hbox hb; have n0_ := Aside0.mk (below_step (by repeat (first | (with_reducible first | exact HB.out | apply below_alloc | apply pw_below_drewN | apply below_drew1) | exact HB.out)) hb); have n1_ := Aside0.mk (hbox); have n2_ := Aside0.mk ((by rw [hg]; exact (below_size (by repeat (first | (with_reducible first | exact HB.out | apply below_alloc | apply pw_below_drewN | apply below_drew1) | exact HB.out))) : w.heap.size ≤ gb141)); have n3_ := Aside0.mk ((by rw [hg]; exact (below_size (by repeat (first | (with_reducible first | exact HB.out | apply below_alloc | apply pw_below_drewN | apply below_drew1) | exact HB.out))) : w.heap.size ≤ gb141)); clear HB; have HB := n0_; have BK141 := n1_; have GW141 := n2_; have GE141 := n3_; clear n0_ n1_ n2_ n3_; clear hb hbox hg; have hcz87_0 : w86.cell? ⟨gb141, 0, none⟩ = some (.int .i64 a0_0) := (blk_cell BK141.out 0).trans rfl; have hcz87_1 : w86.cell? ⟨gb141, 1, none⟩ = some (.int .i64 a0_1) := (blk_cell BK141.out 1).trans rfl; have hcz87_2 : w86.cell? ⟨gb141, 2, none⟩ = some (.int .i64 a0_2) := (blk_cell BK141.out 2).trans rfl; have hcz87_3 : w86.cell? ⟨gb141, 3, none⟩ = some (.int .i64 a0_3) := (blk_cell BK141.out 3).trans rfl; have hcz87_4 : w86.cell? ⟨gb141, 4, none⟩ = some (.int .i64 a0_4) := (blk_cell BK141.out 4).trans rfl; have hcz87_5 : w86.cell? ⟨gb141, 5, none⟩ = some (.int .i64 a0_5) := (blk_cell BK141.out 5).trans rfl; have hcz87_6 : w86.cell? ⟨gb141, 6, none⟩ = some (.bool a0_6) := (blk_cell BK141.out 6).trans rfl; have hcz87_7 : w86.cell? ⟨gb141, 7, none⟩ = some (.int .i64 a0_7) := (blk_cell BK141.out 7).trans rfl; have hfz87_0 := blk_frozen BK141.out 0; have hfz87_1 := blk_frozen BK141.out 1; have hfz87_2 := blk_frozen BK141.out 2; have hfz87_3 := blk_frozen BK141.out 3; have hfz87_4 := blk_frozen BK141.out 4; have hfz87_5 := blk_frozen BK141.out 5; have hfz87_6 := blk_frozen BK141.out 6; have hfz87_7 := blk_frozen BK141.out 7) | ((with_reducible refine gate_callee (f := 16) rfl ?_); refine goesL_ (some 6) rfl rfl Tryd.func16 (by kernel_rfl) rfl #[.agg #[.int .i64 a0_0, .int .i64 a0_1, .int .i64 a0_2, .int .i64 a0_3, .int .i64 a0_4, .int .i64 a0_5, .bool a0_6, .int .i64 a0_7]] rfl (by (try simp only [List.map_toArray, List.map_cons, List.map_nil]); first | done | rfl | (simp only [List.length_drop, List.length_take]; rfl)) ?_; (with_reducible refine (impl_DateOk.calls a0_0 a0_1 a0_2 a0_3 a0_4 a0_5 a0_6 a0_7 false _ A2.out).mono ?_); rintro e w88 ⟨rfl, hb⟩; refine ⟨_, rfl, ?_⟩; have n0_ := Aside0.mk (blk_below (g := gb141) (o := .cells #[.int .i64 a0_0, .int .i64 a0_1, .int .i64 a0_2, .int .i64 a0_3, .int .i64 a0_4, .int .i64 a0_5, .bool a0_6, .int .i64 a0_7] 23 (0, 0)) (by (with_reducible repeat (first | refine blk_drewN ?_ _ | refine blk_drew ?_ | refine blk_alloc ?_ _)); exact BK141.out) hb); have n1_ := Aside0.mk (below_step (by repeat (first | (with_reducible first | exact HB.out | apply below_alloc | apply pw_below_drewN | apply below_drew1 | refine below_set ?_ GE141.out) | exact HB.out)) hb); clear BK141; clear HB; have BK141 := n0_; have HB := n1_; clear n0_ n1_; (try clear hb); (try clear hb2); (try clear hk); (try clear hi)))
  go_ret
  exact ⟨by first | rfl | (simp [*] <;> rfl), by repeat (first | (with_reducible first | exact HB.out | apply below_alloc | apply pw_below_drewN | apply below_drew1 | refine below_set ?_ GE141.out) | exact HB.out)⟩

end Go.Proofs.YtdfopjmokbcnlaaDoor.PX
