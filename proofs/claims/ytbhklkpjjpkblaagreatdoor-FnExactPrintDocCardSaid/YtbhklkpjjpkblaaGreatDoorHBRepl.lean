/- The replacer of bytes by texts: each byte of the text becomes what the table says. -/
import Derived.Test.YtbhklkpjjpkblaaGreatDoorHRepl
import Derived.Test.YtbhklkpjjpkblaaGreatDoorWWords
import Derived.Test.YtbhklkpjjpkblaaGreatDoorWKept
import Derived.Test.YtbhklkpjjpkblaaGreatDoorWLast
import Derived.Test.YtbhklkpjjpkblaaGreatDoorWMore
import Derived.Test.YtbhklkpjjpkblaaGreatDoorProg
import Derived.Laws.CopyRow
import Derived.Laws.CopyOwn
import Derived.WalkKit
import Derived.Laws.MakeOwn
import Derived.Laws.Tables
import Derived.Lib.SliceRun
import Derived.WalkSpells
import Derived.Deep.RegionLaw
import Derived.Deep.QuietTactic
import Derived.BigQuiet
import Derived.Lib.CountLaws
namespace Go.Proofs.YtbhklkpjjpkblaaGreatDoorW.BRepM
open Go Go.RowKit Go.Proofs Go.Proofs.YtbhklkpjjpkblaaGreatDoorW.PrintWords Go.Proofs.YtbhklkpjjpkblaaGreatDoorW.ReplM
theorem sz5 : (Tryz.prog.info? 5).map (·.size) = some 1 := by kernel_rfl
theorem info5 : (Tryz.prog.info? 5).map (fun i => (i.zero, i.size, i.bytes)) = some (some (.int .u8 0), 1, 1) := by kernel_rfl
def one (b : UInt8) : ByteArray := ⟨#[b]⟩
set_option maxHeartbeats 1000000 in
set_option maxRecDepth 100000 in
theorem count (s : ByteArray) (c : UInt8) (w : World) :
    Calls Tryz.prog 130 #[.string s, .string ⟨#[c]⟩] w fun e w' => e = .returned (.int .i64 (Lib.countByte s.data.toList c)) ∧ w' = w := by
  go_enter Tryz.func130, Tryz.ntmps130
  go_wp2
  rw [run_callFunc_extern Tryz.func132 (by kernel_rfl) (by kernel_rfl) (by kernel_rfl) (e := Extern.BytealgCount.count) (by kernel_rfl), Lib.run_countString]
  simp only [Result.andThen]
  rw [Oper.upon_value]
  go_wp2
  go_ret
  exact ⟨rfl, rfl⟩
set_option maxHeartbeats 4000000 in
set_option maxRecDepth 100000 in
theorem replace (R : Nat) (w : World) (no : Option Nat) (tab : Nat → Option ByteArray) (A : Option Addr) (c : Nat) (dom : List UInt8) (s : ByteArray) (hT : Table w R no tab (.slice A (dom.map one).length c)) (hne : some R ≠ no)
    (hC : Kd.string.C w A (dom.map one).length (dom.map one)) (hn : dom.Nodup) (hd : ∀ b, (tabB tab b).isSome = true ↔ b ∈ dom) (hlong : ∀ b x, tab b = some x → x.size ≤ 1000) (hs : s.size ≤ 1073741824) (hl : dom.length ≤ 1000) :
    Calls Tryz.prog 128 #[.pointer (some ⟨R, 0, none⟩), .string s] w fun e w' => e = .returned (.string (outS tab s)) ∧ Below w.heap.size w w' := by
  have hlast := hT.lastCell
  have hml : (dom.map one).length = dom.length := List.length_map _
  generalize hmm : (dom.map one).length = m at *
  have w8 : wrap64 ((m : Int) * 8) = (m : Int) * 8 := by unfold wrap64; omega
  have HT := Aside0.mk hT
  have HC := Aside0.mk hC
  have HS := Aside0.mk hs
  have HL := Aside0.mk hlong
  have HD := Aside0.mk hd
  have HN := Aside0.mk hn
  have HNE := Aside0.mk hne
  have HM := Aside0.mk hml
  have HM2 := Aside0.mk hl
  by_cases c8 : m * 8 ≤ s.size
  · have c1 : decide ((m : Int) * 8 ≤ (s.size : Int)) = true := decide_eq_true (by omega)
    clear hT hC hs hlong hd hn hne hml hl c8 hmm
    go_enter Tryz.func128, Tryz.ntmps128
    go_wp2
    rw [w8]
    clear w8
    obtain ⟨w, rfl⟩ : ∃ x, x = w := ⟨_, rfl⟩
    go_loopg [5, 6, 32] (m + 1) (fun kq v5 v6 v32 w' => ∃ (j : Nat) (f : Bool) (n : Int), v5 = .int .i64 n ∧ v6 = .bool f ∧ v32 = .int .i64 (j : Int) ∧ Aside0 (j ≤ m ∧ m < kq + j) ∧ Aside0 (n = wrap64 ((s.size : Int) + signSum (tabB tab) s.data.toList (dom.take j))) ∧ Aside0 (f = false ↔ ∀ b ∈ dom.take j, s.data.toList.count b = 0) ∧ Aside0 (Below w.heap.size w w'))
    case atStart => exact ⟨0, false, s.size, rfl, rfl, rfl, ⟨by omega, by omega⟩, ⟨by have := HS.out; show (s.size : Int) = wrap64 ((s.size : Int) + 0); unfold wrap64; omega⟩, ⟨by simp⟩, ⟨Below.refl _ _⟩⟩
    case round =>
      obtain ⟨j, f, n, rfl, rfl, rfl, HJ, HNN, HF, HB⟩ := hrel
      by_cases hj : j < m
      · have hmd := HM.out
        obtain ⟨b, hb⟩ : ∃ b, dom[j]? = some b := ⟨_, List.getElem?_eq_getElem (by omega)⟩
        have hbm : b ∈ dom := List.mem_of_getElem? hb
        obtain ⟨ad, e0, hx0⟩ := Kd.at_string (Kd.C_below HC.out HB.out) ((j : Nat) : Int) (by omega) (by omega)
        subst e0
        obtain ⟨x, hx⟩ : ∃ x, x = rdOf ByteArray.empty (dom.map one) ((j : Nat) : Int) := ⟨_, rfl⟩
        rw [← hx] at hx0
        have hxo : x = one b := by
          rw [hx]
          unfold rdOf
          rw [Int.toNat_natCast, List.getD_eq_getElem?_getD, List.getElem?_map, hb]
          rfl
        have hp0 : 0 < x.size := by rw [hxo]; exact Nat.zero_lt_one
        have hxb : (x[0]'hp0).toNat = b.toNat := by subst hxo; rfl
        have hlt : (x[0]'hp0).toNat < 256 := (x[0]'hp0).toNat_lt
        obtain ⟨cnt, hcn⟩ : ∃ n : Nat, n = s.data.toList.count b := ⟨_, rfl⟩
        have hcnt : ∀ w : World, Calls Tryz.prog 130 #[.string s, .string x] w fun e w' => e = .returned (.int .i64 (cnt : Int)) ∧ w' = w := fun w => by
          rw [hxo, hcn]
          exact count s b w
        have hle : cnt ≤ s.size := by rw [hcn, ← data_length]; exact List.count_le_length
        obtain ⟨t, ht⟩ := Option.isSome_iff_exists.1 ((HD.out b).2 hbm)
        obtain ⟨tb, htb, htt⟩ := Option.map_eq_some_iff.1 (show (tab b.toNat).map (fun s => s.data.toList) = some t from ht)
        obtain ⟨vs, hcell, hslot⟩ := (HT.out.below HNE.out HB.out).cell (x[0]'hp0).toNat hlt
        rw [hxb, htb] at hslot
        obtain ⟨g, cg, rfl, _⟩ := hslot
        have htl := HL.out _ _ htb
        have hmore : more (tabB tab) b = (tb.size : Int) - 1 := by
          unfold more
          rw [ht, ← htt, Option.getD_some, data_length]
        have hms := mul_small (cnt : Int) ((tb.size : Int) - 1) (by omega) (by have := HS.out; omega) (by omega) (by omega)
        obtain ⟨D, hD⟩ : ∃ D, D = (tb.size : Int) - 1 := ⟨_, rfl⟩
        rw [← hD] at hms hmore
        have wa : wrap64 ((tb.size : Int) - 1) = D := by rw [hD]; unfold wrap64; omega
        obtain ⟨E, hE⟩ : ∃ E, E = (cnt : Int) * D := ⟨_, rfl⟩
        have wb : wrap64 ((cnt : Int) * D) = E := by rw [← hE] at hms; rw [← hE]; unfold wrap64; omega
        have hbv : ∀ x : Nat, x < 256 → (fun _ => True) x := fun _ _ => trivial
        have htk : dom.take (j + 1) = dom.take j ++ [b] := by rw [List.take_add_one, hb]; rfl
        have HSN : Aside0 (wrap64 (n + E) = wrap64 ((s.size : Int) + signSum (tabB tab) s.data.toList (dom.take (j + 1)))) := ⟨by
          rw [hE, HNN.out, wrap_add, htk, signSum_snoc, hmore, ← hcn, Int.add_assoc]⟩
        have HFN : Aside0 ((∀ b ∈ dom.take (j + 1), s.data.toList.count b = 0) ↔ (∀ b ∈ dom.take j, s.data.toList.count b = 0) ∧ cnt = 0) := ⟨by
          rw [htk, hcn]
          constructor
          · exact fun h => ⟨fun x hx => h x (List.mem_append_left _ hx), h b (List.mem_append_right _ List.mem_cons_self)⟩
          · rintro ⟨h1, h2⟩ x hx
            rcases List.mem_append.1 hx with hx | hx
            · exact h1 x hx
            · rw [List.mem_singleton.1 hx]; exact h2⟩
        have p1 := eq_true (show (0 : Int) ≤ ((j : Nat) : Int) by omega)
        have q1 := eq_true (show ((j : Nat) : Int) < (m : Int) by omega)
        have c2 : decide (((j : Nat) : Int) < (m : Int)) = true := decide_eq_true (by omega)
        have HW1 : Aside0 (wrap64 (((j : Nat) : Int) + 1) = ((j + 1 : Nat) : Int)) := ⟨by have := HM2.out; unfold wrap64; omega⟩
        have HJ1 := Aside0.mk hj
        have HZ : Aside0 (cnt = 0 → wrap64 (n + E) = n) := ⟨fun h => by rw [hE, h, Int.natCast_zero, Int.zero_mul, HNN.out, wrap_add, Int.add_zero]⟩
        clear hmd hb hbm hx hxo hxb hcn hle ht htb htt htl hmore hms hbv htk hj hD hE
        generalize hJ : ((j : Nat) : Int) = J at *
        generalize hCN : (cnt : Int) = CN at *
        have HCN := Aside0.mk hCN
        have HJJ := Aside0.mk hJ
        clear hJ hCN
        by_cases hz : cnt = 0
        · have c3 : (CN != 0) = false := by rw [bne_eq_false_iff_eq, ← HCN.out]; omega
          have HZ2 := Aside0.mk hz
          clear hz
          go_wp2_with (go_at_call 130; refine (hcnt _).mono ?_; rintro e w1 ⟨rfl, rfl⟩)
          go_roundg (m - j)
          case measure => have := HJ1.out; have := HJ.out; omega
          case rel =>
            refine ⟨j + 1, f, n, rfl, rfl, by rw [HW1.out], ⟨by have := HJ1.out; omega, by have := HJ.out; have := HJ1.out; omega⟩, ⟨?_⟩, ⟨?_⟩, HB⟩
            · rw [← HSN.out, HZ.out HZ2.out]
            · rw [HFN.out, HF.out]
              exact ⟨fun h => ⟨h, HZ2.out⟩, fun h => h.1⟩
        · have c3 : (CN != 0) = true := by rw [bne_iff_ne, ← HCN.out]; omega
          have HZ2 := Aside0.mk hz
          clear hz
          go_upto_region 9 with (go_at_call 130; refine (hcnt _).mono ?_; rintro e w1 ⟨rfl, rfl⟩)
          go_quiet (fail)
          go_wp2
          go_roundg (m - j)
          case measure => have := HJ1.out; have := HJ.out; omega
          case rel =>
            refine ⟨j + 1, true, wrap64 (n + E), rfl, rfl, by rw [HW1.out], ⟨by have := HJ1.out; omega, by have := HJ.out; have := HJ1.out; omega⟩, ⟨?_⟩, ⟨?_⟩, ⟨pw_below_drewN HB.out nq⟩⟩
            · rw [← HSN.out]
            · rw [HFN.out]
              exact ⟨fun h => (by cases h), fun h => absurd h.2 HZ2.out⟩
      · have c2 : decide ((j : Int) < (m : Int)) = false := decide_eq_false (by omega)
        have hjm : j = dom.length := by have := HJ.out; have := HM.out; omega
        obtain ⟨N, hN⟩ : ∃ N, N = (outT (tabB tab) s.data.toList).length := ⟨_, rfl⟩
        have hNb := outT_bound (tabB tab) 1000 (by omega) (fun b x h => by
          obtain ⟨tb, htb, htt⟩ := Option.map_eq_some_iff.1 (show (tab b.toNat).map (fun s => s.data.toList) = some x from h)
          rw [← htt, data_length]
          exact HL.out _ _ htb) s.data.toList
        rw [data_length] at hNb
        have hn : n = (N : Int) := by
          have h1 := size_signs (tabB tab) dom HN.out HD.out s.data.toList
          have h2 := HNN.out
          have h3 := HS.out
          rw [data_length] at h1
          rw [hjm, List.take_length] at h2
          rw [h2, ← h1, hN]
          unfold wrap64
          omega
        have HF2 : Aside0 (f = false ↔ ∀ b ∈ s.data.toList, tabB tab b = none) := ⟨by
          have h2 := HF.out
          rw [hjm, List.take_length] at h2
          rw [h2]
          constructor
          · exact fun h => none_of_counts (tabB tab) dom _ HD.out h
          · intro h b hb
            refine List.count_eq_zero.2 fun hm => ?_
            have h5 := (HD.out b).2 hb
            rw [h b hm] at h5
            cases h5⟩
        have HNB : Aside0 (N ≤ 1000 * s.size) := ⟨by rw [hN]; exact hNb⟩
        have HNE2 := Aside0.mk hN
        subst hn
        clear hNb hN hjm hj HF HNN HJ
        generalize ((j : Nat) : Int) = J at *
        cases f with
        | false =>
          have hout := outS_same tab s (HF2.out.1 rfl)
          go_wp2
          go_ret
          exact ⟨rfl, HB.out⟩
        | true =>
          clear HF2
          have hNN : N ≤ 1073741824000 := by have := HNB.out; have := HS.out; omega
          have hmk := print_make (P := Tryz.prog) 42 5 .u8 1 Tryz.underlying42 info5 (by decide) N (by omega)
          have HNN2 := Aside0.mk hNN
          clear hNN
          go_wp2
          have HG0 : Aside0 ((wr.alloc (.cells (madeCells #[.int .u8 0] N) 5 (0, 0))).heap[wr.heap.size]? = some (.cells (fillAt N (outT (tabB tab) (s.data.toList.take 0))).toArray 5 (0, 0))) := ⟨by
            rw [List.take_zero]
            show _ = some (Obj.cells (fillAt N []).toArray _ _)
            rw [fillAt_zero]
            exact blk_new wr _⟩
          have HB0 := Aside0.mk (HB.out.alloc HB.out.size (.cells (madeCells #[.int .u8 0] N) 5 (0, 0)))
          have HGs := Aside0.mk HB.out.size
          clear hmk HB
          generalize wr.alloc (.cells (madeCells #[.int .u8 0] N) 5 (0, 0)) = W0 at *
          generalize wr.heap.size = G at *
          have HNO := HNE2
          go_loopg [13, 14] (s.size + 1) (fun kq v13 v14 w' => ∃ (k : Nat) (xs : List UInt8), v13 = .int .i64 (xs.length : Int) ∧ v14 = .int .i64 (k : Int) ∧ Aside0 (k ≤ s.size ∧ s.size < kq + k) ∧ Aside0 (xs = outT (tabB tab) (s.data.toList.take k)) ∧ Aside0 (w'.heap[G]? = some (.cells (fillAt N xs).toArray 5 (0, 0))) ∧ Aside0 (Below w.heap.size w w'))
          case atStart => exact ⟨0, [], rfl, rfl, ⟨by omega, by omega⟩, ⟨rfl⟩, HG0, HB0⟩
          case round =>
            obtain ⟨k, xs, rfl, rfl, HK, HX, HG, HB⟩ := hrel
            by_cases hk : k < s.size
            · have hjl : k < s.data.toList.length := by rw [data_length]; exact hk
              obtain ⟨b, hb⟩ : ∃ b, b = s[k]'hk := ⟨_, rfl⟩
              have hbl : s.data.toList[k]? = some b := by rw [List.getElem?_eq_getElem hjl, hb]; rfl
              have htk : s.data.toList.take (k + 1) = s.data.toList.take k ++ [b] := by rw [List.take_add_one, hbl]; rfl
              have hlt : b.toNat < 256 := b.toNat_lt
              obtain ⟨vs, hcell, hslot⟩ := (HT.out.below HNE.out HB.out).cell b.toNat hlt
              have hof := outT_snoc (tabB tab) b (s.data.toList.take k)
              rw [← htk] at hof
              have hofl := congrArg List.length hof
              rw [List.length_append] at hofl
              have htN := outT_take (tabB tab) s.data.toList (k + 1)
              rw [← HNO.out] at htN
              have hNN := HNN2.out
              have hS := HS.out
              have p1 := eq_true (show (0 : Int) ≤ ((k : Nat) : Int) by omega)
              have q1 := eq_true (show ((k : Nat) : Int) < (s.size : Int) by omega)
              have q2 := eq_true (show k < s.size from hk)
              have c2 : decide (((k : Nat) : Int) < (s.size : Int)) = true := decide_eq_true (by omega)
              have HW1 : Aside0 (wrap64 (((k : Nat) : Int) + 1) = ((k + 1 : Nat) : Int)) := ⟨by unfold wrap64; omega⟩
              rw [← HX.out] at hof hofl
              cases htb : tab b.toNat with
              | none =>
                have hbn : tabB tab b = none := by unfold tabB; rw [htb]; rfl
                rw [htb] at hslot
                obtain rfl : vs = .slice none 0 0 := hslot
                have he : ∀ W : World, (binOp .neq 42 (.slice none 0 0) (.slice none 0 0)).run Tryz.prog W = .ok (.bool false) W := fun W => run_neq_slice_nil_any W 42 5 none 0 0 0 0 Tryz.underlying42
                have hob : outB (tabB tab) b = [b] := by unfold outB; rw [hbn]
                rw [hob] at hof hofl
                have hxN : xs.length < N := by rw [List.length_singleton] at hofl; omega
                have HOF := Aside0.mk hof
                have HXL := Aside0.mk (fillAt_set N xs b hxN)
                have HWJ : Aside0 (wrap64 ((xs.length : Int) + 1) = ((xs.length + 1 : Nat) : Int)) := ⟨by unfold wrap64; omega⟩
                have hrl := fillAt_length N xs (by omega)
                have hcz : wr.cell? ⟨G, xs.length, none⟩ = some ((fillAt N xs)[xs.length]'(by omega)) := by
                  unfold World.cell?
                  dsimp only
                  rw [HG.out]
                  show (fillAt N xs).toArray[xs.length]? = _
                  rw [List.getElem?_toArray, List.getElem?_eq_getElem]
                have hfz : wr.frozen? ⟨G, xs.length, none⟩ = false := by simp [World.frozen?, HG.out]
                generalize (fillAt N xs)[xs.length]'(by omega) = vz at hcz
                have HST : Aside0 ((wr.setCell ⟨G, xs.length, none⟩ (cellB b)).heap[G]? = some (.cells (fillAt N (xs ++ [b])).toArray 5 (0, 0))) := ⟨by
                  rw [setCell_eq_setRow wr G xs.length _ _ _ (cellB b) HG.out, setRow_heap wr G _ _ _ _ HG.out, ← HXL.out, List.setIfInBounds_toArray]⟩
                have HJ1 := Aside0.mk hk
                have p3 := eq_true (show (0 : Int) ≤ (xs.length : Int) by omega)
                have q3 := eq_true (show (xs.length : Int) < (N : Int) by omega)
                have q4 := eq_true hxN
                clear hbl htk hofl htN hNN hS hof htb hbn hob hjl hrl hxN
                subst hb
                go_wp2
                go_roundg (s.size - k)
                case measure => have := HJ1.out; have := HK.out; omega
                case rel => exact ⟨k + 1, xs ++ [s[k]'(HJ1.out)], by rw [HWJ.out, List.length_append]; rfl, by rw [HW1.out], ⟨by have := HJ1.out; omega, by have := HK.out; have := HJ1.out; omega⟩, ⟨HOF.out.symm⟩, ⟨HST.out⟩, ⟨set_below HB.out G _ HGs.out _⟩⟩
              | some tb =>
                have hbs : tabB tab b = some tb.data.toList := by unfold tabB; rw [htb]; rfl
                rw [htb] at hslot
                obtain ⟨g, cg, rfl, hg1, hg2, hg3, hrd⟩ := hslot
                have he : ∀ W : World, (binOp .neq 42 (.slice (some ⟨g, 0, none⟩) tb.size cg) (.slice none 0 0)).run Tryz.prog W = .ok (.bool true) W := fun W => run_neq_slice_nil_any W 42 5 _ _ _ 0 0 Tryz.underlying42
                have hob : outB (tabB tab) b = tb.data.toList := by unfold outB; rw [hbs]
                rw [hob] at hof hofl
                rw [data_length] at hofl
                have hxN : xs.length + tb.size ≤ N := by omega
                have HOF := Aside0.mk hof
                have HXL := Aside0.mk (fillAt_splice N xs tb.data.toList (by rw [data_length]; exact hxN))
                have HWJ : Aside0 (wrap64 ((xs.length : Int) + (tb.size : Int)) = ((xs.length + tb.size : Nat) : Int)) := ⟨by unfold wrap64; omega⟩
                have HRL := Aside0.mk (fillAt_length N xs (by omega))
                obtain ⟨i5, hi5, h5⟩ := Option.map_eq_some_iff.1 info5
                simp only [Prod.mk.injEq] at h5
                obtain ⟨A', hcut, hA'⟩ := cut_row (P := Tryz.prog) 42 5 .i64 Tryz.underlying42 hi5 h5.2.1 G N xs.length (by omega)
                have HA := Aside0.mk hA'
                have HSRC := Aside0.mk (cells_of_reads hrd)
                have HXN := Aside0.mk hxN
                obtain ⟨CS, hCS⟩ : ∃ CS, CS = tb.data.toList.map cellB := ⟨_, rfl⟩
                have HCS := Aside0.mk hCS
                have HCL : Aside0 (CS.length = tb.size) := ⟨by rw [hCS, List.length_map, data_length]⟩
                rw [← hCS] at HXL HSRC
                have HONE : Aside0 (∀ v ∈ CS, v.oneCell' = true) := ⟨fun v hv => by
                  rw [hCS] at hv
                  obtain ⟨x, _, rfl⟩ := List.mem_map.1 hv
                  rfl⟩
                have HFIT : Aside0 (xs.length + CS.length ≤ (fillAt N xs).length) := ⟨by rw [HRL.out, HCL.out]; exact hxN⟩
                have HMIN : Aside0 (CS.length = Nat.min tb.size (N - xs.length)) := ⟨by rw [HCL.out]; exact (Nat.min_eq_left (by omega)).symm⟩
                have HPOS : Aside0 (0 < CS.length → A' = some ⟨G, xs.length, none⟩) := ⟨fun h => hA' (by rw [HCL.out] at h; omega)⟩
                have HJ1 := Aside0.mk hk
                have hlti := eq_true (show ((b.toNat : Nat) : Int) < 256 by omega)
                clear hbl htk hofl htN hNN hS hof htb hbs hob hjl hxN hA' hrd hg1 hg2 hg3 hi5 h5 hCS
                subst hb
                go_upto_region 28 with (fail)
                go_region_law (refine step_copy_splice rfl (.tmp 105) (.tmp 111) 42 42 rfl 5 Tryz.underlying42 sz5 _ _ _ _ _ _ rfl rfl G xs.length (fillAt N xs) 5 HG.out CS HMIN.out (fun h0 => ⟨HPOS.out h0, _, rfl, HSRC.out⟩) HFIT.out HONE.out w.heap.size w ⟨HB.out.os, HB.out.tape, HB.out.output, HB.out.size, HB.out.block⟩ HGs.out ?_; intro w4 hg4 hb4)
                go_wp2
                go_roundg (s.size - k)
                case measure => have := HJ1.out; have := HK.out; omega
                case rel =>
                  refine ⟨k + 1, xs ++ tb.data.toList, by rw [HCL.out, HWJ.out, List.length_append, data_length], by rw [HW1.out], ⟨by have := HJ1.out; omega, by have := HK.out; have := HJ1.out; omega⟩, ⟨HOF.out.symm⟩, ⟨?_⟩, ⟨hb4⟩⟩
                  rw [← HXL.out]
                  exact hg4.out
            · have hkm : k = s.size := by have := HK.out; omega
              subst hkm
              have hall : s.data.toList.take s.size = s.data.toList := List.take_of_length_le (by rw [data_length]; exact Nat.le_refl _)
              have hxx := HX.out
              rw [hall] at hxx
              have hxl : xs.length = N := by rw [hxx]; exact HNO.out.symm
              rw [hxl]
              have hrd := fillAt_reads wr G N 5 _ hxl (by have := HNN2.out; omega) HG.out
              have kc : (convert 42 9 (.slice (some ⟨G, 0, none⟩) N N)).run Tryz.prog wr = .ok (.string (outS tab s)) wr := by
                rw [string_of_reads Tryz.underlying42 Tryz.underlying5 Tryz.underlying9 hrd, str_list, hxx]
                rfl
              clear hrd hall hk hxx hxl
              go_wp2
              go_ret
              exact ⟨rfl, HB.out⟩
  · have c1 : decide ((m : Int) * 8 ≤ (s.size : Int)) = false := decide_eq_false (by omega)
    clear hT hC hs hlong hd hn hne hml hl c8 hmm
    go_enter Tryz.func128, Tryz.ntmps128
    go_wp2
    rw [w8]
    clear w8
    obtain ⟨w, rfl⟩ : ∃ x, x = w := ⟨_, rfl⟩
    go_loopg [5, 6, 10] (s.size + 1) (fun kq v5 v6 v10 w' => ∃ (j : Nat) (f : Bool) (n : Int), v5 = .int .i64 n ∧ v6 = .bool f ∧ v10 = .int .i64 (j : Int) ∧ Aside0 (j ≤ s.size ∧ s.size < kq + j) ∧ Aside0 (n = ((outT (tabB tab) (s.data.toList.take j)).length : Int) + ((s.size : Int) - (j : Int))) ∧ Aside0 (f = false ↔ ∀ b ∈ s.data.toList.take j, tabB tab b = none) ∧ Aside0 (Below w.heap.size w w'))
    case atStart => exact ⟨0, false, s.size, rfl, rfl, rfl, ⟨by omega, by omega⟩, ⟨by simp [outT]⟩, ⟨by simp⟩, ⟨Below.refl _ _⟩⟩
    case round =>
      obtain ⟨j, f, n, rfl, rfl, rfl, HJ, HNN, HF, HB⟩ := hrel
      have hnb := outT_bound (tabB tab) 1000 (by omega) (fun b x h => by
          obtain ⟨tb, htb, htt⟩ := Option.map_eq_some_iff.1 (show (tab b.toNat).map (fun s => s.data.toList) = some x from h)
          rw [← htt, data_length]
          exact HL.out _ _ htb)
      by_cases hj : j < s.size
      · have hjl : j < s.data.toList.length := by rw [data_length]; exact hj
        obtain ⟨b, hb⟩ : ∃ b, b = s[j]'hj := ⟨_, rfl⟩
        have hbl : s.data.toList[j]? = some b := by rw [List.getElem?_eq_getElem hjl, hb]; rfl
        have htk : s.data.toList.take (j + 1) = s.data.toList.take j ++ [b] := by rw [List.take_add_one, hbl]; rfl
        have hlt : b.toNat < 256 := b.toNat_lt
        obtain ⟨vs, hcell, hslot⟩ := (HT.out.below HNE.out HB.out).cell b.toNat hlt
        have hn1 := hnb (s.data.toList.take j)
        have hn2 : (s.data.toList.take j).length ≤ j := List.length_take_le _ _
        have hS := HS.out
        have hJ := HJ.out
        have hN := HNN.out
        have p1 := eq_true (show (0 : Int) ≤ ((j : Nat) : Int) by omega)
        have q1 := eq_true (show ((j : Nat) : Int) < (s.size : Int) by omega)
        have q2 := eq_true (show j < s.size from hj)
        have c2 : decide (((j : Nat) : Int) < (s.size : Int)) = true := decide_eq_true (by omega)
        have w1 : Aside0 (wrap64 (((j : Nat) : Int) + 1) = ((j + 1 : Nat) : Int)) := ⟨by unfold wrap64; omega⟩
        have hof := outT_snoc (tabB tab) b (s.data.toList.take j)
        rw [← htk] at hof
        have hofl := congrArg List.length hof
        rw [List.length_append] at hofl
        cases htb : tab b.toNat with
        | none =>
          have hbn : tabB tab b = none := by unfold tabB; rw [htb]; rfl
          rw [htb] at hslot
          obtain rfl : vs = .slice none 0 0 := hslot
          have he : ∀ W : World, (binOp .neq 42 (.slice none 0 0) (.slice none 0 0)).run Tryz.prog W = .ok (.bool false) W := fun W => run_neq_slice_nil_any W 42 5 none 0 0 0 0 Tryz.underlying42
          have hob : (outB (tabB tab) b).length = 1 := by unfold outB; rw [hbn]; rfl
          have HN2 : Aside0 (n = ((outT (tabB tab) (s.data.toList.take (j + 1))).length : Int) + ((s.size : Int) - ((j + 1 : Nat) : Int))) := ⟨by omega⟩
          have HF2 : Aside0 (f = false ↔ ∀ b ∈ s.data.toList.take (j + 1), tabB tab b = none) := ⟨by
            rw [HF.out, htk]
            constructor
            · intro h x hx
              rcases List.mem_append.1 hx with hx | hx
              · exact h x hx
              · rw [List.mem_singleton.1 hx]; exact hbn
            · exact fun h x hx => h x (List.mem_append_left _ hx)⟩
          have HJ1 := Aside0.mk hj
          clear hnb hbl htk hn1 hn2 hS hJ hN hof hofl htb hbn hob hjl HNN HF
          subst hb
          go_wp2
          go_roundg (s.size - j)
          case measure => have := HJ1.out; have := HJ.out; omega
          case rel => exact ⟨j + 1, f, n, rfl, rfl, by rw [w1.out], ⟨by have := HJ1.out; omega, by have := HJ.out; have := HJ1.out; omega⟩, HN2, HF2, HB⟩
        | some tb =>
          have hbs : tabB tab b = some tb.data.toList := by unfold tabB; rw [htb]; rfl
          rw [htb] at hslot
          obtain ⟨g, cg, rfl, _⟩ := hslot
          have htl := HL.out _ _ htb
          have he : ∀ W : World, (binOp .neq 42 (.slice (some ⟨g, 0, none⟩) tb.size cg) (.slice none 0 0)).run Tryz.prog W = .ok (.bool true) W := fun W => run_neq_slice_nil_any W 42 5 _ _ _ 0 0 Tryz.underlying42
          have hob : (outB (tabB tab) b).length = tb.size := by unfold outB; rw [hbs]; exact data_length tb
          have wb : Aside0 (wrap64 (n + ((tb.size : Int) - 1)) = n + ((tb.size : Int) - 1)) := ⟨by unfold wrap64; omega⟩
          have HN2 : Aside0 (n + ((tb.size : Int) - 1) = ((outT (tabB tab) (s.data.toList.take (j + 1))).length : Int) + ((s.size : Int) - ((j + 1 : Nat) : Int))) := ⟨by omega⟩
          have HF2 : Aside0 (true = false ↔ ∀ b ∈ s.data.toList.take (j + 1), tabB tab b = none) := ⟨by
            rw [htk]
            refine ⟨fun h => (by cases h), fun h => ?_⟩
            have := h b (List.mem_append_right _ List.mem_cons_self)
            rw [hbs] at this
            cases this⟩
          have HJ1 := Aside0.mk hj
          clear hnb hbl htk hn1 hn2 hS hJ hN hof hofl htb hbs hob hjl HNN HF
          obtain ⟨D, hD⟩ : ∃ D, D = (tb.size : Int) - 1 := ⟨_, rfl⟩
          rw [← hD] at wb HN2
          have wa : wrap64 ((tb.size : Int) - 1) = D := by rw [hD]; unfold wrap64; omega
          clear hD htl
          subst hb
          go_wp2
          go_roundg (s.size - j)
          case measure => have := HJ1.out; have := HJ.out; omega
          case rel => exact ⟨j + 1, true, n + D, by rw [wb.out], rfl, by rw [w1.out], ⟨by have := HJ1.out; omega, by have := HJ.out; have := HJ1.out; omega⟩, HN2, HF2, HB⟩
      · have c2 : decide ((j : Int) < (s.size : Int)) = false := decide_eq_false (by omega)
        have hjm : j = s.size := by have := HJ.out; omega
        subst hjm
        obtain ⟨N, hN⟩ : ∃ N, N = (outT (tabB tab) s.data.toList).length := ⟨_, rfl⟩
        have hNb := hnb s.data.toList
        rw [data_length] at hNb
        have hall : s.data.toList.take s.size = s.data.toList := List.take_of_length_le (by rw [data_length]; exact Nat.le_refl _)
        have hn : n = (N : Int) := by
          have h2 := HNN.out
          rw [hall] at h2
          omega
        have HF2 : Aside0 (f = false ↔ ∀ b ∈ s.data.toList, tabB tab b = none) := ⟨by
          have h2 := HF.out
          rw [hall] at h2
          exact h2⟩
        have HNB : Aside0 (N ≤ 1000 * s.size) := ⟨by rw [hN]; exact hNb⟩
        have HNE2 := Aside0.mk hN
        subst hn
        clear hNb hN hj HF HNN hall hnb
        cases f with
        | false =>
          have hout := outS_same tab s (HF2.out.1 rfl)
          go_wp2
          go_ret
          exact ⟨rfl, HB.out⟩
        | true =>
          clear HF2
          have hNN : N ≤ 1073741824000 := by have := HNB.out; have := HS.out; omega
          have hmk := print_make (P := Tryz.prog) 42 5 .u8 1 Tryz.underlying42 info5 (by decide) N (by omega)
          have HNN2 := Aside0.mk hNN
          clear hNN
          go_wp2
          have HG0 : Aside0 ((wr.alloc (.cells (madeCells #[.int .u8 0] N) 5 (0, 0))).heap[wr.heap.size]? = some (.cells (fillAt N (outT (tabB tab) (s.data.toList.take 0))).toArray 5 (0, 0))) := ⟨by
            rw [List.take_zero]
            show _ = some (Obj.cells (fillAt N []).toArray _ _)
            rw [fillAt_zero]
            exact blk_new wr _⟩
          have HB0 := Aside0.mk (HB.out.alloc HB.out.size (.cells (madeCells #[.int .u8 0] N) 5 (0, 0)))
          have HGs := Aside0.mk HB.out.size
          clear hmk HB
          generalize wr.alloc (.cells (madeCells #[.int .u8 0] N) 5 (0, 0)) = W0 at *
          generalize wr.heap.size = G at *
          have HNO := HNE2
          go_loopg [13, 14] (s.size + 1) (fun kq v13 v14 w' => ∃ (k : Nat) (xs : List UInt8), v13 = .int .i64 (xs.length : Int) ∧ v14 = .int .i64 (k : Int) ∧ Aside0 (k ≤ s.size ∧ s.size < kq + k) ∧ Aside0 (xs = outT (tabB tab) (s.data.toList.take k)) ∧ Aside0 (w'.heap[G]? = some (.cells (fillAt N xs).toArray 5 (0, 0))) ∧ Aside0 (Below w.heap.size w w'))
          case atStart => exact ⟨0, [], rfl, rfl, ⟨by omega, by omega⟩, ⟨rfl⟩, HG0, HB0⟩
          case round =>
            obtain ⟨k, xs, rfl, rfl, HK, HX, HG, HB⟩ := hrel
            by_cases hk : k < s.size
            · have hjl : k < s.data.toList.length := by rw [data_length]; exact hk
              obtain ⟨b, hb⟩ : ∃ b, b = s[k]'hk := ⟨_, rfl⟩
              have hbl : s.data.toList[k]? = some b := by rw [List.getElem?_eq_getElem hjl, hb]; rfl
              have htk : s.data.toList.take (k + 1) = s.data.toList.take k ++ [b] := by rw [List.take_add_one, hbl]; rfl
              have hlt : b.toNat < 256 := b.toNat_lt
              obtain ⟨vs, hcell, hslot⟩ := (HT.out.below HNE.out HB.out).cell b.toNat hlt
              have hof := outT_snoc (tabB tab) b (s.data.toList.take k)
              rw [← htk] at hof
              have hofl := congrArg List.length hof
              rw [List.length_append] at hofl
              have htN := outT_take (tabB tab) s.data.toList (k + 1)
              rw [← HNO.out] at htN
              have hNN := HNN2.out
              have hS := HS.out
              have p1 := eq_true (show (0 : Int) ≤ ((k : Nat) : Int) by omega)
              have q1 := eq_true (show ((k : Nat) : Int) < (s.size : Int) by omega)
              have q2 := eq_true (show k < s.size from hk)
              have c2 : decide (((k : Nat) : Int) < (s.size : Int)) = true := decide_eq_true (by omega)
              have HW1 : Aside0 (wrap64 (((k : Nat) : Int) + 1) = ((k + 1 : Nat) : Int)) := ⟨by unfold wrap64; omega⟩
              rw [← HX.out] at hof hofl
              cases htb : tab b.toNat with
              | none =>
                have hbn : tabB tab b = none := by unfold tabB; rw [htb]; rfl
                rw [htb] at hslot
                obtain rfl : vs = .slice none 0 0 := hslot
                have he : ∀ W : World, (binOp .neq 42 (.slice none 0 0) (.slice none 0 0)).run Tryz.prog W = .ok (.bool false) W := fun W => run_neq_slice_nil_any W 42 5 none 0 0 0 0 Tryz.underlying42
                have hob : outB (tabB tab) b = [b] := by unfold outB; rw [hbn]
                rw [hob] at hof hofl
                have hxN : xs.length < N := by rw [List.length_singleton] at hofl; omega
                have HOF := Aside0.mk hof
                have HXL := Aside0.mk (fillAt_set N xs b hxN)
                have HWJ : Aside0 (wrap64 ((xs.length : Int) + 1) = ((xs.length + 1 : Nat) : Int)) := ⟨by unfold wrap64; omega⟩
                have hrl := fillAt_length N xs (by omega)
                have hcz : wr.cell? ⟨G, xs.length, none⟩ = some ((fillAt N xs)[xs.length]'(by omega)) := by
                  unfold World.cell?
                  dsimp only
                  rw [HG.out]
                  show (fillAt N xs).toArray[xs.length]? = _
                  rw [List.getElem?_toArray, List.getElem?_eq_getElem]
                have hfz : wr.frozen? ⟨G, xs.length, none⟩ = false := by simp [World.frozen?, HG.out]
                generalize (fillAt N xs)[xs.length]'(by omega) = vz at hcz
                have HST : Aside0 ((wr.setCell ⟨G, xs.length, none⟩ (cellB b)).heap[G]? = some (.cells (fillAt N (xs ++ [b])).toArray 5 (0, 0))) := ⟨by
                  rw [setCell_eq_setRow wr G xs.length _ _ _ (cellB b) HG.out, setRow_heap wr G _ _ _ _ HG.out, ← HXL.out, List.setIfInBounds_toArray]⟩
                have HJ1 := Aside0.mk hk
                have p3 := eq_true (show (0 : Int) ≤ (xs.length : Int) by omega)
                have q3 := eq_true (show (xs.length : Int) < (N : Int) by omega)
                have q4 := eq_true hxN
                clear hbl htk hofl htN hNN hS hof htb hbn hob hjl hrl hxN
                subst hb
                go_wp2
                go_roundg (s.size - k)
                case measure => have := HJ1.out; have := HK.out; omega
                case rel => exact ⟨k + 1, xs ++ [s[k]'(HJ1.out)], by rw [HWJ.out, List.length_append]; rfl, by rw [HW1.out], ⟨by have := HJ1.out; omega, by have := HK.out; have := HJ1.out; omega⟩, ⟨HOF.out.symm⟩, ⟨HST.out⟩, ⟨set_below HB.out G _ HGs.out _⟩⟩
              | some tb =>
                have hbs : tabB tab b = some tb.data.toList := by unfold tabB; rw [htb]; rfl
                rw [htb] at hslot
                obtain ⟨g, cg, rfl, hg1, hg2, hg3, hrd⟩ := hslot
                have he : ∀ W : World, (binOp .neq 42 (.slice (some ⟨g, 0, none⟩) tb.size cg) (.slice none 0 0)).run Tryz.prog W = .ok (.bool true) W := fun W => run_neq_slice_nil_any W 42 5 _ _ _ 0 0 Tryz.underlying42
                have hob : outB (tabB tab) b = tb.data.toList := by unfold outB; rw [hbs]
                rw [hob] at hof hofl
                rw [data_length] at hofl
                have hxN : xs.length + tb.size ≤ N := by omega
                have HOF := Aside0.mk hof
                have HXL := Aside0.mk (fillAt_splice N xs tb.data.toList (by rw [data_length]; exact hxN))
                have HWJ : Aside0 (wrap64 ((xs.length : Int) + (tb.size : Int)) = ((xs.length + tb.size : Nat) : Int)) := ⟨by unfold wrap64; omega⟩
                have HRL := Aside0.mk (fillAt_length N xs (by omega))
                obtain ⟨i5, hi5, h5⟩ := Option.map_eq_some_iff.1 info5
                simp only [Prod.mk.injEq] at h5
                obtain ⟨A', hcut, hA'⟩ := cut_row (P := Tryz.prog) 42 5 .i64 Tryz.underlying42 hi5 h5.2.1 G N xs.length (by omega)
                have HA := Aside0.mk hA'
                have HSRC := Aside0.mk (cells_of_reads hrd)
                have HXN := Aside0.mk hxN
                obtain ⟨CS, hCS⟩ : ∃ CS, CS = tb.data.toList.map cellB := ⟨_, rfl⟩
                have HCS := Aside0.mk hCS
                have HCL : Aside0 (CS.length = tb.size) := ⟨by rw [hCS, List.length_map, data_length]⟩
                rw [← hCS] at HXL HSRC
                have HONE : Aside0 (∀ v ∈ CS, v.oneCell' = true) := ⟨fun v hv => by
                  rw [hCS] at hv
                  obtain ⟨x, _, rfl⟩ := List.mem_map.1 hv
                  rfl⟩
                have HFIT : Aside0 (xs.length + CS.length ≤ (fillAt N xs).length) := ⟨by rw [HRL.out, HCL.out]; exact hxN⟩
                have HMIN : Aside0 (CS.length = Nat.min tb.size (N - xs.length)) := ⟨by rw [HCL.out]; exact (Nat.min_eq_left (by omega)).symm⟩
                have HPOS : Aside0 (0 < CS.length → A' = some ⟨G, xs.length, none⟩) := ⟨fun h => hA' (by rw [HCL.out] at h; omega)⟩
                have HJ1 := Aside0.mk hk
                have hlti := eq_true (show ((b.toNat : Nat) : Int) < 256 by omega)
                clear hbl htk hofl htN hNN hS hof htb hbs hob hjl hxN hA' hrd hg1 hg2 hg3 hi5 h5 hCS
                subst hb
                go_upto_region 28 with (fail)
                go_region_law (refine step_copy_splice rfl (.tmp 105) (.tmp 111) 42 42 rfl 5 Tryz.underlying42 sz5 _ _ _ _ _ _ rfl rfl G xs.length (fillAt N xs) 5 HG.out CS HMIN.out (fun h0 => ⟨HPOS.out h0, _, rfl, HSRC.out⟩) HFIT.out HONE.out w.heap.size w ⟨HB.out.os, HB.out.tape, HB.out.output, HB.out.size, HB.out.block⟩ HGs.out ?_; intro w4 hg4 hb4)
                go_wp2
                go_roundg (s.size - k)
                case measure => have := HJ1.out; have := HK.out; omega
                case rel =>
                  refine ⟨k + 1, xs ++ tb.data.toList, by rw [HCL.out, HWJ.out, List.length_append, data_length], by rw [HW1.out], ⟨by have := HJ1.out; omega, by have := HK.out; have := HJ1.out; omega⟩, ⟨HOF.out.symm⟩, ⟨?_⟩, ⟨hb4⟩⟩
                  rw [← HXL.out]
                  exact hg4.out
            · have hkm : k = s.size := by have := HK.out; omega
              subst hkm
              have hall : s.data.toList.take s.size = s.data.toList := List.take_of_length_le (by rw [data_length]; exact Nat.le_refl _)
              have hxx := HX.out
              rw [hall] at hxx
              have hxl : xs.length = N := by rw [hxx]; exact HNO.out.symm
              rw [hxl]
              have hrd := fillAt_reads wr G N 5 _ hxl (by have := HNN2.out; omega) HG.out
              have kc : (convert 42 9 (.slice (some ⟨G, 0, none⟩) N N)).run Tryz.prog wr = .ok (.string (outS tab s)) wr := by
                rw [string_of_reads Tryz.underlying42 Tryz.underlying5 Tryz.underlying9 hrd, str_list, hxx]
                rfl
              clear hrd hall hk hxx hxl
              go_wp2
              go_ret
              exact ⟨rfl, HB.out⟩
end Go.Proofs.YtbhklkpjjpkblaaGreatDoorW.BRepM
