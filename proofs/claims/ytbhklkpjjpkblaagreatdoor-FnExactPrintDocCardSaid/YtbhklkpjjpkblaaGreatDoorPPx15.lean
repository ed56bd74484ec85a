import Derived.Test.YtbhklkpjjpkblaaGreatDoorHShort
import Derived.Test.YtbhklkpjjpkblaaGreatDoorPPx0
import Derived.Test.YtbhklkpjjpkblaaGreatDoorPPx13
import Derived.Test.YtbhklkpjjpkblaaGreatDoorPPx14
namespace Go.Proofs.YtbhklkpjjpkblaaGreatDoor.PP
open Go.RowKit Go.Proofs.YtbhklkpjjpkblaaGreatDoorW.PrintWords Go.Proofs.YtbhklkpjjpkblaaGreatDoorW.PrintLast Go.Proofs.YtbhklkpjjpkblaaGreatDoorW.PrintMore Go.Proofs.YtbhklkpjjpkblaaGreatDoorW.WordsB Go.Proofs.YtbhklkpjjpkblaaGreatDoorW.GlM Go.Proofs.YtbhklkpjjpkblaaGreatDoorW.Short
attribute [local go_sem] max2_int min2_int max_two min_two max_three min_three max_four min_four
set_option linter.unusedVariables false
set_option linter.unusedSimpArgs false
def impl_printItem.ats (k : Nat) : List S52 → Option (List UInt8)
  | [] => some []
  | y :: l => (impl_Escape.f k y.f1 true).bind fun p => (impl_printItem.ats k l).bind fun q => some ((32 :: (y.f0.data.toList ++ 61 :: 34 :: (p.1.data.toList ++ [34]))) ++ q)
def impl_printItem.all (g : Int → Option (List UInt8)) : List Int → Option (List UInt8)
  | [] => some []
  | n :: ns => (g n).bind fun a => (impl_printItem.all g ns).bind fun b => some (a ++ b)
def impl_printItem.shut (nm A : List UInt8) : List UInt8 := (60 :: nm) ++ (A ++ [47, 62])
def impl_printItem.wide (nm A B : List UInt8) : List UInt8 := (60 :: nm) ++ (A ++ ([62] ++ (B ++ (60 :: 47 :: (nm ++ [62])))))
def impl_printItem.f : Nat → List S39 → List (List Int) → Int → Option (List UInt8)
  | 0, _, _, _ => none
  | k + 1, l, kids, n => if 0 ≤ n ∧ n < (l.length : Int) ∧ n < (kids.length : Int) then (if (rd_T39 l n).f1.toList = [] then ((impl_Escape.f k (rd_T39 l n).f2 false).bind fun p => some p.1.data.toList) else ((impl_printItem.ats k (rd_T39 l n).f3).bind fun A => (if rd_L8 kids n = [] then some (impl_printItem.shut (rd_T39 l n).f1.data.toList A) else ((impl_printItem.all (impl_printItem.f k l kids) (rd_L8 kids n)).bind fun B => some (impl_printItem.wide (rd_T39 l n).f1.data.toList A B))))) else none
theorem impl_printItem.keep {T e : TypeId} {B b : Nat} {bs : List Value} {w w' : World} (h : Lib.IsBuilderF T e B b bs w) (hb : Below w.heap.size w w') : Lib.IsBuilderF T e B b bs w' := by
  have main : ∀ p, Lib.BuilderAtF T e B b p bs w → Lib.BuilderAtF T e B b p bs w' := by
    intro p hp
    have hlt := hp.lt
    obtain ⟨hB, v, hbk, hown, hne⟩ := hp
    refine ⟨hB, v, (hb.block b hlt).trans hbk, ⟨hown.1, ?_⟩, hne⟩
    rcases hown.2 with hn | ⟨g, cap, cur, fz, hv, hbg, hg, rest⟩
    · exact .inl hn
    · exact .inr ⟨g, cap, cur, fz, hv, hbg, (hb.block g (Array.getElem?_eq_some_iff.1 hg).1).trans hg, rest⟩
  exact h.elim (fun x => .inl (main _ x)) (fun x => .inr (main _ x))
theorem impl_printItem.oth {e : TypeId} {b : Option Nat} {w w' : World} (hb : Below w.heap.size w w') : Lib.OthersKept e b w w' :=
  fun k o hk _ _ => (hb.block k (Array.getElem?_eq_some_iff.1 hk).1).trans hk
structure impl_printItem.S (B b g : Nat) (cs : Array Value) (t : TypeId) (w0 : World) (acc : List UInt8) (w : World) : Prop where
  bld : Lib.IsBuilderF 44 5 B b (Lib.byteCells acc) w
  box : w.heap[g]? = some (.cells cs t (0, 0))
  bel : Below B w0 w
  oth : Lib.OthersKept 5 (some b) w0 w
  big : B ≤ w.heap.size
theorem impl_printItem.S.stay {B b g : Nat} {cs : Array Value} {t : TypeId} {w0 w w' : World} {acc : List UInt8} (h : impl_printItem.S B b g cs t w0 acc w) (hb : Below w.heap.size w w') : impl_printItem.S B b g cs t w0 acc w' :=
  ⟨impl_printItem.keep h.bld hb, (hb.block g (Array.getElem?_eq_some_iff.1 h.box).1).trans h.box, h.bel.trans (hb.mono h.big), h.oth.trans (impl_printItem.oth hb), Nat.le_trans h.big hb.size⟩
theorem impl_printItem.S.wrote {B b g : Nat} {cs : Array Value} {t : TypeId} {w0 w w' : World} {acc acc' : List UInt8} (h : impl_printItem.S B b g cs t w0 acc w) (hg : g ≠ b) (ht : t ≠ 5) (h1 : Lib.IsBuilderF 44 5 B b (Lib.byteCells acc') w') (h2 : Below B w w') (h3 : Lib.OthersKept 5 (some b) w w') : impl_printItem.S B b g cs t w0 acc' w' :=
  ⟨h1, h3 g _ h.box (fun e => hg (Option.some.inj e)) (fun c fz e => by injection e with _ e _; exact ht e), h.bel.trans h2, h.oth.trans h3, Nat.le_trans h.big h2.size⟩
theorem impl_printItem.wrS {B b g : Nat} {cs : Array Value} {t : TypeId} {w0 w : World} {acc : List UInt8} (s : ByteArray) (h : impl_printItem.S B b g cs t w0 acc w) (hg : g ≠ b) (ht : t ≠ 5) (hlen : acc.length + s.size ≤ 140737488355328) :
    Calls Tryz.prog 30 #[.pointer (some ⟨b, 0, none⟩), .string s] w fun e w' => e = .returned (.tuple #[.int .i64 s.size, .nilIface]) ∧ impl_printItem.S B b g cs t w0 (acc ++ s.data.toList) w' :=
  (Any.Builder_WriteString_k Tryz.laysB166 Tryz.laysB_X B b (Lib.byteCells acc) s w h.bld (by rw [Lib.byteCells_length]; exact hlen) h.big).mono fun _ _ ⟨h1, h2, h3, h4⟩ => ⟨h1, h.wrote hg ht (by rw [Lib.byteCells_append]; exact .inr h2) h3 h4⟩
theorem impl_printItem.escS {B b g : Nat} {cs : Array Value} {t : TypeId} {w0 w : World} {acc : List UInt8} (k : Nat) (s : ByteArray) (attr : Bool) (p : ByteArray × Bool) (h : impl_printItem.S B b g cs t w0 acc w) (hgl : GL w) (hf : impl_Escape.f k s attr = some p) :
    Calls Tryz.prog 29 #[.string s, .bool attr] w fun e w' => e = .returned (.tuple #[.string p.1, .bool p.2]) ∧ impl_printItem.S B b g cs t w0 acc w' :=
  (impl_Escape.calls k s attr p.1 p.2 w hgl hf).mono fun _ _ ⟨h1, h2⟩ => ⟨h1, h.stay h2⟩
def impl_printItem.Rows (wK : World) (b : Nat) (A : Option Addr) (l : List (List Int)) : Prop := ∀ i : Int, 0 ≤ i → i < (l.length : Int) → ∃ ad Ai ci, A = some ad ∧ (rd_L8 l i).length ≤ ci ∧ ∀ w', Lib.OthersKept 5 (some b) wK w' → w'.cell? (ad.add i.toNat) = some (.slice Ai (rd_L8 l i).length ci) ∧ (Kd.int .i64).C w' Ai (rd_L8 l i).length (rd_L8 l i)
def impl_printItem.Wrote (B b : Nat) (acc : List UInt8) (w : World) (e : Ending) (w' : World) : Prop := e = .returned (.tuple #[]) ∧ Lib.IsBuilderF 44 5 B b (Lib.byteCells acc) w' ∧ Below B w w' ∧ Lib.OthersKept 5 (some b) w w'
theorem impl_printItem.app (a b : ByteArray) : (a ++ b).data.toList = a.data.toList ++ b.data.toList := by rw [ByteArray.data_append, Array.toList_append]
theorem impl_printItem.atext (y : S52) (p : ByteArray) : (((((⟨#[32]⟩ : ByteArray) ++ y.f0) ++ (⟨#[61, 34]⟩ : ByteArray)) ++ p) ++ (⟨#[34]⟩ : ByteArray)).data.toList = 32 :: (y.f0.data.toList ++ 61 :: 34 :: (p.data.toList ++ [34])) := by
  rw [impl_printItem.app, impl_printItem.app, impl_printItem.app, impl_printItem.app]
  show (((([32] : List UInt8) ++ y.f0.data.toList) ++ [61, 34]) ++ p.data.toList) ++ [34] = _
  simp
theorem impl_printItem.drop52 (l : List S52) (j : Nat) (h : j < l.length) : l.drop j = rd_T52 l (j : Int) :: l.drop (j + 1) := by
  rw [List.drop_eq_getElem_cons h]
  congr 1
  unfold rd_T52
  simp [List.getD_eq_getElem?_getD, List.getElem?_eq_getElem h]
theorem impl_printItem.dropI (l : List Int) (j : Nat) (h : j < l.length) : l.drop j = rd l (j : Int) :: l.drop (j + 1) := by
  rw [List.drop_eq_getElem_cons h]
  congr 1
  unfold rd
  simp [List.getD_eq_getElem?_getD, List.getElem?_eq_getElem h]
set_option maxHeartbeats 8000000 in
set_option maxRecDepth 100000 in
theorem impl_printItem.calls : ∀ (k b : Nat) (bs : List UInt8) (A0 : Option Addr) (c0 : Nat) (l0 : List S39) (A1 : Option Addr) (c1 : Nat) (l1 : List (List Int)) (n : Int) (r : List UInt8) (wT wK w : World) (_ : GL wT) (_ : Below wT.heap.size wT w) (_ : Lib.OthersKept 5 (some b) wK w)
    (_ : Lib.IsBuilderF 44 5 wT.heap.size b (Lib.byteCells bs) w) (_ : b < w.heap.size) (_ : Kd.C k39 wT A0 l0.length l0) (_ : impl_printItem.Rows wK b A1 l1) (_ : bs.length + r.length ≤ 100000000) (_ : impl_printItem.f k l0 l1 n = some r),
    Calls Tryz.prog 14 #[.pointer (some ⟨b, 0, none⟩), .slice A0 l0.length c0, .slice A1 l1.length c1, .int .i64 n] w (impl_printItem.Wrote wT.heap.size b (bs ++ r) w)
  | 0, b, bs, A0, c0, l0, A1, c1, l1, n, r, wT, wK, w, hgl, hbT, hoK, hbld, hbw, hL, hK, hlen, h => by simp [impl_printItem.f] at h
  | k + 1, b, bs, A0, c0, l0, A1, c1, l1, n, r, wT, wK, w, hgl, hbT, hoK, hbld, hbw, hL, hK, hlen, h => by
    have IH := Aside0.mk (impl_printItem.calls k)
    have HGL := Aside0.mk hgl
    have HBT := Aside0.mk hbT
    have HOK := Aside0.mk hoK
    have HBD := Aside0.mk hbld
    have HBW := Aside0.mk hbw
    have HL := Aside0.mk hL
    have HK := Aside0.mk hK
    have HLEN := Aside0.mk hlen
    rw [impl_printItem.f] at h
    by_cases hn : 0 ≤ n ∧ n < (l0.length : Int) ∧ n < (l1.length : Int)
    · rw [if_pos hn] at h
      obtain ⟨hn0, hn1, hn2⟩ := hn
      obtain ⟨ad, A3, c3, e0, hx0, hx1, hx2, hx3, hl3, hi3⟩ := at_T39 hL n hn0 hn1
      subst e0
      replace hx0 := (hbT.cell (World.block_lt_of_cell? wT _ hx0)).trans hx0
      replace hx1 := (hbT.cell (World.block_lt_of_cell? wT _ hx1)).trans hx1
      replace hx2 := (hbT.cell (World.block_lt_of_cell? wT _ hx2)).trans hx2
      replace hx3 := (hbT.cell (World.block_lt_of_cell? wT _ hx3)).trans hx3
      have HA3 := Aside0.mk hi3
      have HL3 := Aside0.mk hl3
      obtain ⟨x, hx⟩ : ∃ x, x = rd_T39 l0 n := ⟨_, rfl⟩
      rw [← hx] at h hx0 hx1 hx2 hx3 HA3 HL3
      have p1 := eq_true hn0
      have q1 := eq_true hn1
      have HN2 := Aside0.mk hn2
      have HH := Aside0.mk h
      have HN0 := Aside0.mk hn0
      clear hgl hbT hoK hbld hbw hL hK hlen h hl3 hi3 hx hn0 hn1 hn2
      go_enter Tryz.func14, Tryz.ntmps14
      go_upto_region 1 with (((with_reducible refine gate_dst (N := 8) rfl ?_); refine box_event ?hg (N := 8) ?hd (cs := #[.int .i64 0, .string (⟨#[]⟩ : ByteArray), .string (⟨#[]⟩ : ByteArray), .slice none 0 0]) (t := 39) ?hr ?_; (case hd => rfl); (case hg => rfl); (case hr => first | (go_simp; done) | (go_simp; rfl)); intro gx hgx w2 hbox hb2; have BX := Aside0.mk hbox; have HB2 := Aside0.mk hb2; have HGX := Aside0.mk hgx; clear hbox hb2 hgx; have hz0 : w2.cell? ⟨gx, 0, none⟩ = some (.int .i64 0) := (blk_cell BX.out 0).trans rfl; have fz0 := blk_frozen BX.out 0; have hz1 : w2.cell? ⟨gx, 1, none⟩ = some (.string (⟨#[]⟩ : ByteArray)) := (blk_cell BX.out 1).trans rfl; have fz1 := blk_frozen BX.out 1; have hz2 : w2.cell? ⟨gx, 2, none⟩ = some (.string (⟨#[]⟩ : ByteArray)) := (blk_cell BX.out 2).trans rfl; have fz2 := blk_frozen BX.out 2; have hz3 : w2.cell? ⟨gx, 3, none⟩ = some (.slice none 0 0) := (blk_cell BX.out 3).trans rfl; have fz3 := blk_frozen BX.out 3))
      have hbx : ((((w2.setCell ⟨gx, 0, none⟩ (.int .i64 x.f0)).setCell ⟨gx, 1, none⟩ (.string x.f1)).setCell ⟨gx, 2, none⟩ (.string x.f2)).setCell ⟨gx, 3, none⟩ (.slice A3 x.f3.length c3)).heap[gx]? = some (.cells #[.int .i64 x.f0, .string x.f1, .string x.f2, .slice A3 x.f3.length c3] 39 (0, 0)) := by
        refine blk_put (cs := #[.int .i64 x.f0, .string x.f1, .string x.f2, .slice none 0 0]) ?_ 3 _ rfl
        refine blk_put (cs := #[.int .i64 x.f0, .string x.f1, .string (⟨#[]⟩ : ByteArray), .slice none 0 0]) ?_ 2 _ rfl
        refine blk_put (cs := #[.int .i64 x.f0, .string (⟨#[]⟩ : ByteArray), .string (⟨#[]⟩ : ByteArray), .slice none 0 0]) ?_ 1 _ rfl
        refine blk_put (cs := #[.int .i64 0, .string (⟨#[]⟩ : ByteArray), .string (⟨#[]⟩ : ByteArray), .slice none 0 0]) ?_ 0 _ rfl
        exact BX.out
      have hle : w.heap.size ≤ gx := by rw [HGX.out]; exact Nat.le_refl _
      have hbb : Below w.heap.size w ((((w2.setCell ⟨gx, 0, none⟩ (.int .i64 x.f0)).setCell ⟨gx, 1, none⟩ (.string x.f1)).setCell ⟨gx, 2, none⟩ (.string x.f2)).setCell ⟨gx, 3, none⟩ (.slice A3 x.f3.length c3)) := by
        repeat (first | exact HB2.out | refine below_set ?_ hle)
      have HGB : Aside0 (gx ≠ b) := ⟨by have := HBW.out; omega⟩
      have HS := Aside0.mk (impl_printItem.S.mk (B := wT.heap.size) (b := b) (g := gx) (w0 := w) (acc := bs) (impl_printItem.keep HBD.out hbb) hbx (hbb.mono HBT.out.size) (impl_printItem.oth hbb) (Nat.le_trans HBT.out.size hbb.size))
      clear BX HB2 HGX hz0 hz1 hz2 hz3 fz0 fz1 fz2 fz3 hbx hle hbb hx0 hx1 hx2 hx3
      generalize ((((w2.setCell ⟨gx, 0, none⟩ (.int .i64 x.f0)).setCell ⟨gx, 1, none⟩ (.string x.f1)).setCell ⟨gx, 2, none⟩ (.string x.f2)).setCell ⟨gx, 3, none⟩ (.slice A3 x.f3.length c3)) = wx at *
      have hg1 : wx.cell? ⟨gx, 1, none⟩ = some (.string x.f1) := (blk_cell HS.out.box 1).trans rfl
      by_cases hm : x.f1.toList = []
      · have hE : x.f1.toList.isEmpty = true := List.isEmpty_iff.2 hm
        have H := HH.out
        rw [if_pos hm] at H
        obtain ⟨p, hp, H⟩ := Option.bind_eq_some_iff.1 H
        obtain rfl := Option.some.inj H
        have HP := Aside0.mk hp
        have hg2 : wx.cell? ⟨gx, 2, none⟩ = some (.string x.f2) := (blk_cell HS.out.box 2).trans rfl
        have hl := HLEN.out
        rw [data_length] at hl
        have HL2 := Aside0.mk hl
        clear hm H hp HH HLEN hl
        go_wp2_with (first | (go_at_call 29; refine (impl_printItem.escS k x.f2 false p HS.out (GL.below HGL.out (HBT.out.trans HS.out.bel)) HP.out).mono ?_; rintro e w3 ⟨rfl, hs3⟩; have HS3 := Aside0.mk hs3; clear hs3) | (go_at_call 30; refine (impl_printItem.wrS p.1 HS3.out HGB.out (by decide) (by have := HL2.out; omega)).mono ?_; rintro e w4 ⟨rfl, hs4⟩; have HS4 := Aside0.mk hs4; clear hs4))
        refine bodyPost_ret (results_none rfl _ _ _) rfl ?_
        exact ⟨rfl, HS4.out.bld, HS4.out.bel, HS4.out.oth⟩
      · have hE : x.f1.toList.isEmpty = false := Bool.eq_false_iff.2 (fun hh => hm (List.isEmpty_iff.1 hh))
        have H := HH.out
        rw [if_neg hm] at H
        obtain ⟨A, hA, H⟩ := Option.bind_eq_some_iff.1 H
        have HAT := Aside0.mk hA
        have HR := Aside0.mk H
        have hl := HLEN.out
        have hrl : 1 + x.f1.size + A.length ≤ r.length := by
          by_cases hk0 : rd_L8 l1 n = []
          · rw [if_pos hk0] at H
            obtain rfl := Option.some.inj H
            unfold impl_printItem.shut
            simp only [List.length_append, List.length_cons, List.length_nil, data_length]
            omega
          · rw [if_neg hk0] at H
            obtain ⟨B, hB, H⟩ := Option.bind_eq_some_iff.1 H
            obtain rfl := Option.some.inj H
            unfold impl_printItem.wide
            simp only [List.length_append, List.length_cons, List.length_nil, data_length]
            omega
        have HLA : Aside0 (bs.length + 1 + x.f1.size + A.length ≤ 100000000) := ⟨by omega⟩
        have hsz : 1 + x.f1.size ≤ 9223372036854775807 := by omega
        clear hm H hA HH hl hrl
        go_wp2_with (go_at_call 30; refine (impl_printItem.wrS ((⟨#[60]⟩ : ByteArray) ++ x.f1) HS.out HGB.out (by decide) (by have := HLA.out; rw [ByteArray.size_append, show (⟨#[60]⟩ : ByteArray).size = 1 from rfl]; omega)).mono ?_; rintro e w3 ⟨rfl, hs3⟩; have HS3 := Aside0.mk hs3; clear hs3; have hg3 : w3.cell? ⟨gx, 3, none⟩ = some (.slice A3 x.f3.length c3) := (blk_cell HS3.out.box 3).trans rfl)
        have HS4 : Aside0 (impl_printItem.S wT.heap.size b gx #[.int .i64 x.f0, .string x.f1, .string x.f2, .slice A3 x.f3.length c3] 39 w ((bs ++ (60 :: x.f1.data.toList)) ++ []) w3) := ⟨by
          have := HS3.out
          rw [impl_printItem.app] at this
          rw [List.append_nil]
          exact this⟩
        have hlen3 : x.f3.length ≤ 9223372036854775807 := HA3.out.2.1
        have HLEN3 := Aside0.mk hlen3
        clear HS HS3 hg1 hg3 hlen3 hsz
        go_loopg [41] (x.f3.length + 1) (fun kq v41 w' => ∃ (j : Nat) (a rest : List UInt8), v41 = .int .i64 (j : Int) ∧ Aside0 (j ≤ x.f3.length ∧ x.f3.length < kq + j) ∧ Aside0 (impl_printItem.ats k (x.f3.drop j) = some rest) ∧ Aside0 (a ++ rest = A) ∧ Aside0 (impl_printItem.S wT.heap.size b gx #[.int .i64 x.f0, .string x.f1, .string x.f2, .slice A3 x.f3.length c3] 39 w ((bs ++ (60 :: x.f1.data.toList)) ++ a) w'))
        case atStart => exact ⟨0, [], A, rfl, ⟨by omega, by omega⟩, HAT, ⟨rfl⟩, HS4⟩
        case round =>
          clear HS4
          obtain ⟨j, a, rest, rfl, HJ, HAR, HAE, HS⟩ := hrel
          by_cases hj : j < x.f3.length
          · have har := HAR.out
            rw [impl_printItem.drop52 _ _ hj, impl_printItem.ats] at har
            obtain ⟨p, hp, har⟩ := Option.bind_eq_some_iff.1 har
            obtain ⟨q, hq, har⟩ := Option.bind_eq_some_iff.1 har
            obtain rfl := Option.some.inj har
            obtain ⟨ad3, e3, hy0, hy1⟩ := at_T52 HA3.out (j : Int) (by omega) (by omega)
            subst e3
            have hbr := HBT.out.trans HS.out.bel
            replace hy0 := (hbr.cell (World.block_lt_of_cell? wT _ hy0)).trans hy0
            replace hy1 := (hbr.cell (World.block_lt_of_cell? wT _ hy1)).trans hy1
            obtain ⟨y, hy⟩ : ∃ y, y = rd_T52 x.f3 (j : Int) := ⟨_, rfl⟩
            rw [← hy] at hp hy0 hy1 HAE
            have HP := Aside0.mk hp
            have HQ := Aside0.mk hq
            have hAl := congrArg List.length HAE.out
            rw [List.length_append, List.length_append, ← impl_printItem.atext, data_length] at hAl
            have HLW : Aside0 (((bs ++ (60 :: x.f1.data.toList)) ++ a).length + (((((⟨#[32]⟩ : ByteArray) ++ y.f0) ++ (⟨#[61, 34]⟩ : ByteArray)) ++ p.1) ++ (⟨#[34]⟩ : ByteArray)).size ≤ 140737488355328) := ⟨by
              have := HLA.out
              simp only [List.length_append, List.length_cons, data_length]
              omega⟩
            have hzs := HLW.out
            simp only [ByteArray.size_append, show (⟨#[32]⟩ : ByteArray).size = 1 from rfl, show (⟨#[61, 34]⟩ : ByteArray).size = 2 from rfl, show (⟨#[34]⟩ : ByteArray).size = 1 from rfl] at hzs
            have z1 : 1 + y.f0.size ≤ 9223372036854775807 := by omega
            have z2 : 1 + y.f0.size + 2 ≤ 9223372036854775807 := by omega
            have z3 : 1 + y.f0.size + 2 + p.1.size ≤ 9223372036854775807 := by omega
            have z4 : 1 + y.f0.size + 2 + p.1.size + 1 ≤ 9223372036854775807 := by omega
            have hlen3 := HLEN3.out
            have HW1 : Aside0 (wrap64 ((j : Int) + 1) = ((j + 1 : Nat) : Int)) := ⟨by unfold wrap64; omega⟩
            have p5 := eq_true (show (0 : Int) ≤ (j : Int) by omega)
            have q5 := eq_true (show (j : Int) < (x.f3.length : Int) by omega)
            have c5 : decide ((j : Int) < (x.f3.length : Int)) = true := decide_eq_true (by omega)
            have HJ1 := Aside0.mk hj
            clear hj hp hq hbr hy hAl hzs hlen3
            generalize hJJ : ((j : Nat) : Int) = J at *
            have HJJ := Aside0.mk hJJ
            clear hJJ
            go_upto_region 8 with (((with_reducible refine gate_dst (N := 12) rfl ?_); refine box_event ?hg (N := 12) ?hd (cs := #[.string (⟨#[]⟩ : ByteArray), .string (⟨#[]⟩ : ByteArray)]) (t := 52) ?hr ?_; (case hd => rfl); (case hg => rfl); (case hr => first | (go_simp; done) | (go_simp; rfl)); intro ga hga w4 hbox hb4; have BX := Aside0.mk hbox; have HB4 := Aside0.mk hb4; have HGA := Aside0.mk hga; clear hbox hb4 hga; have hz0 : w4.cell? ⟨ga, 0, none⟩ = some (.string (⟨#[]⟩ : ByteArray)) := (blk_cell BX.out 0).trans rfl; have fz0 := blk_frozen BX.out 0; have hz1 : w4.cell? ⟨ga, 1, none⟩ = some (.string (⟨#[]⟩ : ByteArray)) := (blk_cell BX.out 1).trans rfl; have fz1 := blk_frozen BX.out 1))
            have hba : ((w4.setCell ⟨ga, 0, none⟩ (.string y.f0)).setCell ⟨ga, 1, none⟩ (.string y.f1)).heap[ga]? = some (.cells #[.string y.f0, .string y.f1] 52 (0, 0)) := by
              refine blk_put (cs := #[.string y.f0, .string (⟨#[]⟩ : ByteArray)]) ?_ 1 _ rfl
              refine blk_put (cs := #[.string (⟨#[]⟩ : ByteArray), .string (⟨#[]⟩ : ByteArray)]) ?_ 0 _ rfl
              exact BX.out
            have hle : wr.heap.size ≤ ga := by rw [HGA.out]; exact Nat.le_refl _
            have hbb : Below wr.heap.size wr ((w4.setCell ⟨ga, 0, none⟩ (.string y.f0)).setCell ⟨ga, 1, none⟩ (.string y.f1)) := by
              repeat (first | exact HB4.out | refine below_set ?_ hle)
            have HS5 := Aside0.mk (HS.out.stay hbb)
            have HAB := Aside0.mk hba
            clear BX HB4 HGA hz0 hz1 fz0 fz1 hba hle hbb hy0 hy1 HS
            generalize ((w4.setCell ⟨ga, 0, none⟩ (.string y.f0)).setCell ⟨ga, 1, none⟩ (.string y.f1)) = w5 at *
            have hk1 : w5.cell? ⟨ga, 1, none⟩ = some (.string y.f1) := (blk_cell HAB.out 1).trans rfl
            go_wp2_with (first | (go_at_call 29; refine (impl_Escape.calls k y.f1 true p.1 p.2 w5 (GL.below HGL.out (HBT.out.trans HS5.out.bel)) HP.out).mono ?_; rintro e w6 ⟨rfl, hb6⟩; have HS6 := Aside0.mk (HS5.out.stay hb6); have hk0 : w6.cell? ⟨ga, 0, none⟩ = some (.string y.f0) := (blk_cell ((hb6.block ga (Array.getElem?_eq_some_iff.1 HAB.out).1).trans HAB.out) 0).trans rfl; clear hb6) | (go_at_call 30; refine (impl_printItem.wrS (((((⟨#[32]⟩ : ByteArray) ++ y.f0) ++ (⟨#[61, 34]⟩ : ByteArray)) ++ p.1) ++ (⟨#[34]⟩ : ByteArray)) HS6.out HGB.out (by decide) HLW.out).mono ?_; rintro e w7 ⟨rfl, hs7⟩; have HS7 := Aside0.mk hs7; clear hs7))
            go_roundg (x.f3.length - j)
            case measure => have := HJ1.out; have := HJ.out; omega
            case rel =>
              refine ⟨j + 1, a ++ (32 :: (y.f0.data.toList ++ 61 :: 34 :: (p.1.data.toList ++ [34]))), q, by rw [HW1.out], ⟨by have := HJ1.out; omega, by have := HJ.out; have := HJ1.out; omega⟩, HQ, ⟨by rw [List.append_assoc]; exact HAE.out⟩, ⟨?_⟩⟩
              have := HS7.out
              rw [impl_printItem.atext, List.append_assoc] at this
              exact this
          · have hje : j = x.f3.length := by have := HJ.out; omega
            subst hje
            have har := HAR.out
            rw [List.drop_eq_nil_of_le (Nat.le_refl _), impl_printItem.ats] at har
            obtain rfl := Option.some.inj har
            have hae := HAE.out
            rw [List.append_nil] at hae
            subst hae
            clear har hj HAR HAE HJ HAT
            obtain ⟨ad1, Ai, ci, e1, hci, hrow⟩ := HK.out n HN0.out HN2.out
            subst e1
            have hk5 := (hrow wr (HOK.out.trans HS.out.oth)).1
            have HROW := Aside0.mk hrow
            have p7 := eq_true HN0.out
            have q7 := eq_true HN2.out
            clear hci hrow
            generalize hks : rd_L8 l1 n = ks at *
            have H := HR.out
            by_cases hk0 : ks = []
            · subst hk0
              rw [if_pos rfl] at H
              obtain rfl := Option.some.inj H
              clear H HR
              go_wp2_with (go_at_call 30; refine (impl_printItem.wrS (⟨#[47, 62]⟩ : ByteArray) HS.out HGB.out (by decide) (by have := HLA.out; simp only [List.length_append, List.length_cons, data_length]; show _ + 2 ≤ _; omega)).mono ?_; rintro e w8 ⟨rfl, hs8⟩; have HS8 := Aside0.mk hs8; clear hs8)
              refine bodyPost_ret (results_none rfl _ _ _) rfl ?_
              refine ⟨rfl, ?_, HS8.out.bel, HS8.out.oth⟩
              have := HS8.out.bld
              unfold impl_printItem.shut
              rw [List.append_assoc, List.append_assoc] at this
              exact this
            · rw [if_neg hk0] at H
              obtain ⟨B, hB, H⟩ := Option.bind_eq_some_iff.1 H
              obtain rfl := Option.some.inj H
              clear H HR
              have HAL := Aside0.mk hB
              have c6 : ((ks.length : Int) == 0) = false := beq_eq_false_iff_ne.2 (fun e => hk0 (List.eq_nil_of_length_eq_zero (by omega)))
              have hl := HLEN.out
              unfold impl_printItem.wide at hl
              simp only [List.length_append, List.length_cons, List.length_nil, data_length] at hl
              have HL9 : Aside0 (bs.length + 1 + x.f1.size + a.length + 1 + B.length + 2 + x.f1.size + 1 ≤ 100000000) := ⟨by omega⟩
              have hsz : 2 + x.f1.size ≤ 9223372036854775807 := by omega
              have hsz2 : 2 + x.f1.size + 1 ≤ 9223372036854775807 := by omega
              clear hB hk0 hl
              go_wp2_with (go_at_call 30; refine (impl_printItem.wrS (⟨#[62]⟩ : ByteArray) HS.out HGB.out (by decide) (by have := HLA.out; simp only [List.length_append, List.length_cons, data_length]; show _ + 1 ≤ _; omega)).mono ?_; rintro e w8 ⟨rfl, hs8⟩; have HS8 := Aside0.mk hs8; clear hs8; have hk6 := (HROW.out w8 (HOK.out.trans HS8.out.oth)).1)
              have HS9 : Aside0 (impl_printItem.S wT.heap.size b gx #[.int .i64 x.f0, .string x.f1, .string x.f2, .slice A3 x.f3.length c3] 39 w (((bs ++ (60 :: x.f1.data.toList)) ++ a ++ [62]) ++ []) w8) := ⟨by
                have := HS8.out
                rw [List.append_nil]
                exact this⟩
              have hlk : ks.length ≤ 9223372036854775807 := (HROW.out w8 (HOK.out.trans HS8.out.oth)).2.2.1
              have HLK := Aside0.mk hlk
              clear HS HS8 hk5 hk6 p1 q1 hlk
              go_loopg [76] (ks.length + 1) (fun kq v76 w' => ∃ (j : Nat) (u rest : List UInt8), v76 = .int .i64 (j : Int) ∧ Aside0 (j ≤ ks.length ∧ ks.length < kq + j) ∧ Aside0 (impl_printItem.all (impl_printItem.f k l0 l1) (ks.drop j) = some rest) ∧ Aside0 (u ++ rest = B) ∧ Aside0 (impl_printItem.S wT.heap.size b gx #[.int .i64 x.f0, .string x.f1, .string x.f2, .slice A3 x.f3.length c3] 39 w (((bs ++ (60 :: x.f1.data.toList)) ++ a ++ [62]) ++ u) w'))
              case atStart => exact ⟨0, [], B, rfl, ⟨by omega, by omega⟩, HAL, ⟨rfl⟩, HS9⟩
              case round =>
                clear HS9 HAL
                obtain ⟨j, u, rest, rfl, HJ, HAR, HAE, HS⟩ := hrel
                by_cases hj : j < ks.length
                · have har := HAR.out
                  rw [impl_printItem.dropI _ _ hj, impl_printItem.all] at har
                  obtain ⟨a1, ha1, har⟩ := Option.bind_eq_some_iff.1 har
                  obtain ⟨q, hq, har⟩ := Option.bind_eq_some_iff.1 har
                  obtain rfl := Option.some.inj har
                  obtain ⟨adk, ek, hm0⟩ := Kd.at_int (HROW.out wr (HOK.out.trans HS.out.oth)).2 (j : Int) (by omega) (by omega)
                  subst ek
                  obtain ⟨m, hm⟩ : ∃ m, m = rd ks (j : Int) := ⟨_, rfl⟩
                  rw [← hm] at ha1 hm0
                  have HA1 := Aside0.mk ha1
                  have HQ := Aside0.mk hq
                  have hBl := congrArg List.length HAE.out
                  rw [List.length_append, List.length_append] at hBl
                  have HLQ : Aside0 ((((bs ++ (60 :: x.f1.data.toList)) ++ a ++ [62]) ++ u).length + a1.length ≤ 100000000) := ⟨by
                    have := HL9.out
                    simp only [List.length_append, List.length_cons, List.length_nil, data_length]
                    omega⟩
                  have hlk := HLK.out
                  have HW1 : Aside0 (wrap64 ((j : Int) + 1) = ((j + 1 : Nat) : Int)) := ⟨by unfold wrap64; omega⟩
                  have p5 := eq_true (show (0 : Int) ≤ (j : Int) by omega)
                  have q5 := eq_true (show (j : Int) < (ks.length : Int) by omega)
                  have c5 : decide ((j : Int) < (ks.length : Int)) = true := decide_eq_true (by omega)
                  have HJ1 := Aside0.mk hj
                  clear hj ha1 hq hm hBl hlk har
                  generalize hJJ : ((j : Nat) : Int) = J at *
                  clear hJJ
                  go_wp2_with (go_at_call 14; refine (IH.out b (((bs ++ (60 :: x.f1.data.toList)) ++ a ++ [62]) ++ u) (some ad) c0 l0 (some ad1) c1 l1 m a1 wT wK wr HGL.out (HBT.out.trans HS.out.bel) (HOK.out.trans HS.out.oth) HS.out.bld (Nat.lt_of_lt_of_le HBW.out HS.out.bel.size) HL.out HK.out HLQ.out HA1.out).mono ?_; rintro e w9 ⟨rfl, h1, h2, h3⟩; have HS9 := Aside0.mk (HS.out.wrote HGB.out (by decide) h1 h2 h3); clear h1 h2 h3)
                  go_roundg (ks.length - j)
                  case measure => have := HJ1.out; have := HJ.out; omega
                  case rel =>
                    refine ⟨j + 1, u ++ a1, q, by rw [HW1.out], ⟨by have := HJ1.out; omega, by have := HJ.out; have := HJ1.out; omega⟩, HQ, ⟨by rw [List.append_assoc]; exact HAE.out⟩, ⟨?_⟩⟩
                    have := HS9.out
                    rw [List.append_assoc] at this
                    exact this
                · have hje : j = ks.length := by have := HJ.out; omega
                  subst hje
                  have har := HAR.out
                  rw [List.drop_eq_nil_of_le (Nat.le_refl _), impl_printItem.all] at har
                  obtain rfl := Option.some.inj har
                  have hae := HAE.out
                  rw [List.append_nil] at hae
                  subst hae
                  clear har hj HAR HAE HJ
                  have hg9 : wr.cell? ⟨gx, 1, none⟩ = some (.string x.f1) := (blk_cell HS.out.box 1).trans rfl
                  go_wp2_with (go_at_call 30; refine (impl_printItem.wrS (((⟨#[60, 47]⟩ : ByteArray) ++ x.f1) ++ (⟨#[62]⟩ : ByteArray)) HS.out HGB.out (by decide) (by have := HL9.out; simp only [List.length_append, List.length_cons, List.length_nil, data_length, ByteArray.size_append]; show _ + (2 + x.f1.size + 1) ≤ _; omega)).mono ?_; rintro e wz ⟨rfl, hsz⟩; have HSZ := Aside0.mk hsz; clear hsz)
                  go_end0
                  refine ⟨rfl, ?_, HSZ.out.bel, HSZ.out.oth⟩
                  have := HSZ.out.bld
                  rw [impl_printItem.app, impl_printItem.app] at this
                  unfold impl_printItem.wide
                  have e : (bs ++ ((60 :: x.f1.data.toList) ++ (a ++ ([62] ++ (u ++ (60 :: 47 :: (x.f1.data.toList ++ [62]))))))) = ((bs ++ (60 :: x.f1.data.toList)) ++ a ++ [62]) ++ u ++ (((⟨#[60, 47]⟩ : ByteArray).data.toList ++ x.f1.data.toList) ++ (⟨#[62]⟩ : ByteArray).data.toList) := by
                    show _ = ((bs ++ (60 :: x.f1.data.toList)) ++ a ++ [62]) ++ u ++ (([60, 47] ++ x.f1.data.toList) ++ [62])
                    simp
                  rw [e]
                  exact this
    · rw [if_neg hn] at h
      cases h
def impl_PrintDoc.f (k : Nat) (l0 : List S39) : Option (ByteArray × Bool) := (impl_DocOk.f k l0).bind fun t => (if t = true then ((impl_below.f k l0).bind fun kids => ((impl_printItem.f k l0 kids 0).bind fun r => (if r.length ≤ 100000000 then some ((⟨r.toArray⟩ : ByteArray), true) else none))) else some ((⟨#[]⟩ : ByteArray), false))
theorem impl_PrintDoc.rows {w : World} {base b : Nat} {ok : Nat → Prop} {v : Value} {l : List (List Int)} {cb : Array Value} (h : Kd.S (Kd.slice 2 (Kd.int .i64)) 59 w base ok v l) (hb : w.heap[b]? = some (.cells cb 44 (0, 0))) : ∃ A c, v = .slice A l.length c ∧ l.length ≤ c ∧ impl_printItem.Rows w b A l := by
  have hR := Kd.S_R h
  obtain ⟨A, c, rfl⟩ := Kd.R_slice hR
  obtain ⟨_, hle, hC⟩ := Kd.R_reads' hR
  refine ⟨A, c, rfl, hle, fun i h0 h1 => ?_⟩
  obtain ⟨ad, _, rfl, _⟩ := Kd.C_get hC ([] : List Int) i h0 h1
  obtain ⟨cs, _, hM, hcell⟩ := Kd.R_get hR ([] : List Int) i h0 h1
  obtain ⟨vi, rfl, hI⟩ := hM
  obtain ⟨Ai, ci, rfl⟩ := Kd.R_slice hI
  obtain ⟨_, hli, _⟩ := Kd.R_reads' hI
  refine ⟨ad, Ai, ci, rfl, hli, fun w' hw => ?_⟩
  have typed : ∀ (k : Nat) (cells : Array Value) (t : TypeId), w.heap[k]? = some (.cells cells t (0, 0)) → t ≠ 5 → t ≠ 44 → w'.heap[k]? = w.heap[k]? := by
    intro k cells t hk h5 h44
    rw [hk]
    refine hw k _ hk (fun e => ?_) (fun c fz e => by injection e with _ e _; exact h5 e)
    have e := Option.some.inj e
    subst e
    rw [hb] at hk
    injection hk with hk
    injection hk with _ hk _
    exact h44 hk.symm
  constructor
  · have hc := hcell 0 _ rfl
    have hc : w.cell? (ad.add i.toNat) = some (.slice Ai (rd_L8 l i).length ci) := by
      have e : i.toNat * (Kd.slice 2 (Kd.int .i64)).sz + 0 = i.toNat := by show i.toNat * 1 + 0 = i.toNat; omega
      rw [e] at hc
      exact hc
    obtain ⟨cells, hty⟩ := Kd.R_typed hR ad.block rfl
    have hbk : w'.heap[(ad.add i.toNat).block]? = w.heap[(ad.add i.toNat).block]? := by
      rw [add_block]
      exact typed ad.block cells _ hty (by decide) (by decide)
    exact (World.cell?_of_block hbk).trans hc
  · have hm : (Kd.int .i64).R 2 w' base _ _ _ := Kd.R_move (Kd.R_tight rfl hI) (fun k hk => by
      obtain ⟨cells, hty⟩ := Kd.R_typed hI k hk.symm
      exact typed k cells _ hty (by decide) (by decide))
    exact (Kd.R_reads' hm).2.2
set_option maxHeartbeats 8000000 in
set_option maxRecDepth 100000 in
theorem impl_PrintDoc.calls (k : Nat) (A0 : Option Addr) (c0 : Nat) (l0 : List S39) (r1 : ByteArray) (r2 : Bool) (w : World) (hgl : GL w) (hr0 : Kd.C k39 w A0 l0.length l0) (hc0 : l0.length ≤ c0) (h : impl_PrintDoc.f k l0 = some (r1, r2)) :
    Calls Tryz.prog 7 #[.slice A0 l0.length c0] w fun e w' => e = .returned (.tuple #[.string r1, .bool r2]) ∧ Below w.heap.size w w' := by
  have HGL := Aside0.mk hgl
  have HR0 := Aside0.mk hr0
  have HC0 := Aside0.mk hc0
  unfold impl_PrintDoc.f at h
  obtain ⟨t, ht, H⟩ := Option.bind_eq_some_iff.1 h
  have HT := Aside0.mk ht
  clear h ht hgl hr0 hc0
  cases t with
  | false =>
    obtain ⟨rfl, rfl⟩ := Prod.mk.inj (Option.some.inj H)
    clear H
    go_enter Tryz.func7, Tryz.ntmps7
    go_wp2_with (go_at_call 13; refine (impl_DocOk.calls k A0 c0 l0 false w HGL.out HR0.out HC0.out HT.out).mono ?_; rintro e w1 ⟨rfl, hb1⟩; have HB1 := Aside0.mk hb1; clear hb1)
    go_ret2
    exact ⟨rfl, HB1.out⟩
  | true =>
    rw [if_pos rfl] at H
    obtain ⟨kids, hk, H⟩ := Option.bind_eq_some_iff.1 H
    obtain ⟨r, hr, H⟩ := Option.bind_eq_some_iff.1 H
    have HK := Aside0.mk hk
    have HP := Aside0.mk hr
    clear hk hr
    split at H
    · rename_i hlen
      obtain ⟨rfl, rfl⟩ := Prod.mk.inj (Option.some.inj H)
      have HLEN := Aside0.mk hlen
      clear H hlen
      go_enter Tryz.func7, Tryz.ntmps7
      go_wp2_with (first | (go_at_call 13; refine (impl_DocOk.calls k A0 c0 l0 true w HGL.out HR0.out HC0.out HT.out).mono ?_; rintro e w1 ⟨rfl, hb1⟩; have HB1 := Aside0.mk hb1; clear hb1) | ((with_reducible refine gate_dst (N := 9) rfl ?_); (try (refine gate_guard (by rfl) ?_; dsimp only)); refine box_event ?hg (N := 9) ?hd (cs := #[.pointer none, .slice none 0 0]) (t := 44) ?hr ?_; (case hd => rfl); (case hg => rfl); (case hr => first | (go_simp; done) | (go_simp; rfl)); intro gb hgb w2 hbox hb2; have BX := Aside0.mk hbox; have HB2 := Aside0.mk (HB1.out.trans (hb2.mono HB1.out.size)); have HGE : Aside0 (w.heap.size ≤ gb) := ⟨by rw [hgb]; exact HB1.out.size⟩; clear hbox hb2 hgb) | (go_at_call 15; refine (impl_below.calls k A0 c0 l0 kids w2 (Kd.C_below HR0.out HB2.out) HC0.out HK.out).mono ?_; rintro e w3 ⟨v, rfl, hv, hb3⟩; have hbx : w3.heap[gb]? = some (.cells #[.pointer none, .slice none 0 0] 44 (0, 0)) := (hb3.block gb (Array.getElem?_eq_some_iff.1 BX.out).1).trans BX.out; obtain ⟨A1, c1, rfl, hle1, hrows⟩ := impl_PrintDoc.rows hv hbx; have HROWS := Aside0.mk hrows; have BX3 := Aside0.mk hbx; have HB3 := Aside0.mk (HB2.out.trans (hb3.mono HB2.out.size)); clear hv hbx hle1 hrows hb3) | (go_at_call 14; refine (impl_printItem.calls k gb [] A0 c0 l0 A1 c1 kids 0 r w w3 w3 HGL.out HB3.out (Lib.OthersKept.refl _ _ _) (.inl ⟨HGE.out, .slice none 0 0, BX3.out, World.ownsRowF_nil w3 w.heap.size 5 1, by simp [Value.ownBlock]⟩) (Array.getElem?_eq_some_iff.1 BX3.out).1 HR0.out HROWS.out (by have := HLEN.out; simp only [List.length_nil]; omega) HP.out).mono ?_; rintro e w4 ⟨rfl, h1, h2, h3⟩; have HBD := Aside0.mk h1; have HB4 := Aside0.mk (HB3.out.trans h2); clear h1 h2 h3) | (go_at_call 16; refine (Any.Builder_String_any_k Tryz.laysB169 Tryz.laysB_X w.heap.size gb ([] ++ r) w4 HBD.out HB4.out.size).mono ?_; rintro e w5 ⟨rfl, h1, h2, h3⟩; have HB5 := Aside0.mk (HB4.out.trans h2); clear h1 h2 h3))
      go_ret2
      exact ⟨rfl, HB5.out⟩
    · cases H
def laws_eqAttr.f (a0_0 : ByteArray) (a0_1 : ByteArray) (a1_0 : ByteArray) (a1_1 : ByteArray) : Option (Bool) := if a0_0.toList = a1_0.toList then (if a0_1.toList = a1_1.toList then (some true) else (some false)) else (some false)
set_option maxHeartbeats 8000000 in
set_option maxRecDepth 100000 in
theorem laws_eqAttr.calls (a0_0 : ByteArray) (a0_1 : ByteArray) (a1_0 : ByteArray) (a1_1 : ByteArray) (r : Bool) (w : World) (h : laws_eqAttr.f a0_0 a0_1 a1_0 a1_1 = some r) :
  Calls Tryz.prog 42 #[.agg #[.string a0_0, .string a0_1], .agg #[.string a1_0, .string a1_1]] w fun e w' => e = .returned (.bool r) ∧ Below w.heap.size w w' := by
 have hu52 := Tryz.underlying52
 have HB := Aside0.mk (Below.refl w.heap.size w)
 have H : (if a0_0.toList = a1_0.toList then (if a0_1.toList = a1_1.toList then (some true) else (some false)) else (some false)) = some r := h
 clear h
 by_cases c3 : a0_0.toList = a1_0.toList
 rotate_left
 ·rw [if_neg c3] at H
  have c3b0 : (a0_0.toList == a1_0.toList) = false := beq_eq_false_iff_ne.mpr c3
  have c3b1 : (a0_0.toList != a1_0.toList) = true := bne_iff_ne.mpr c3
  obtain rfl := Option.some.inj H
  go_enter Tryz.func42, Tryz.ntmps42
  go_wp2_with (first | ((with_reducible refine gate_dst (N := 2) rfl ?_); refine box_event ?hg (N := 2) ?hd (cs := #[.string a0_0, .string a0_1]) (t := 52) ?hr ?_; (case hd => rfl); (case hg => rfl); (case hr => first | (go_simp; done) | (go_simp; rfl)); intro gb266 hg w15 hbox hb; have n0_ := Aside0.mk (below_step aB hb); have n1_ := Aside0.mk (hbox); have n2_ := Aside0.mk ((by rw [hg]; exact (below_size aB) : w.heap.size ≤ gb266)); have n3_ := Aside0.mk ((by rw [hg]; exact (below_size aB) : w.heap.size ≤ gb266)); clear HB; have HB := n0_; have BK266 := n1_; have GW266 := n2_; have GE266 := n3_; clear n0_ n1_ n2_ n3_; clear hb hbox hg) | ((with_reducible refine gate_dst (N := 3) rfl ?_); refine box_event ?hg (N := 3) ?hd (cs := #[.string a1_0, .string a1_1]) (t := 52) ?hr ?_; (case hd => rfl); (case hg => rfl); (case hr => first | (go_simp; done) | (go_simp; rfl)); intro gb267 hg w16 hbox hb; have n0_ := Aside0.mk (blk_below (g := gb266) (o := .cells #[.string a0_0, .string a0_1] 52 (0, 0)) (aP BK266.out) hb); have n1_ := Aside0.mk (below_step aE hb); have n2_ := Aside0.mk (hbox); have n3_ := Aside0.mk ((by rw [hg]; exact (below_size aE) : w.heap.size ≤ gb267)); have n4_ := Aside0.mk ((by rw [hg]; exact (below_size aE) : w.heap.size ≤ gb267)); have n5_ := Aside0.mk ((by rw [hg]; exact Nat.ne_of_lt (blk_lt (g := gb266) (o := .cells #[.string a0_0, .string a0_1] 52 (0, 0)) (aP BK266.out)) : gb266 ≠ gb267)); have n6_ := Aside0.mk ((by rw [hg]; exact Nat.ne_of_gt (blk_lt (g := gb266) (o := .cells #[.string a0_0, .string a0_1] 52 (0, 0)) (aP BK266.out)) : gb267 ≠ gb266)); clear BK266; clear HB; have BK266 := n0_; have HB := n1_; have BK267 := n2_; have GW267 := n3_; have GE267 := n4_; have NB266_267 := n5_; have NB267_266 := n6_; clear n0_ n1_ n2_ n3_ n4_ n5_ n6_; clear hb hbox hg; have hnb17 := NB266_267.out; have hnc17 := NB267_266.out; have hcz18_0 : w16.cell? ⟨gb266, 0, none⟩ = some (.string a0_0) := (blk_cell BK266.out 0).trans rfl; have hcz18_1 : w16.cell? ⟨gb266, 1, none⟩ = some (.string a0_1) := (blk_cell BK266.out 1).trans rfl; have hfz18_0 := blk_frozen BK266.out 0; have hfz18_1 := blk_frozen BK266.out 1; have hcz19_0 : w16.cell? ⟨gb267, 0, none⟩ = some (.string a1_0) := (blk_cell BK267.out 0).trans rfl; have hcz19_1 : w16.cell? ⟨gb267, 1, none⟩ = some (.string a1_1) := (blk_cell BK267.out 1).trans rfl; have hfz19_0 := blk_frozen BK267.out 0; have hfz19_1 := blk_frozen BK267.out 1))
  go_ret
  exact ⟨aS, aE⟩
 rw [if_pos c3] at H
 have c3b0 : (a0_0.toList == a1_0.toList) = true := beq_iff_eq.mpr c3
 have c3b1 : (a0_0.toList != a1_0.toList) = false := bne_eq_false_iff_eq.mpr c3
 clear c3
 by_cases c4 : a0_1.toList = a1_1.toList
 ·rw [if_pos c4] at H
  have c4b0 : (a0_1.toList == a1_1.toList) = true := beq_iff_eq.mpr c4
  have c4b1 : (a0_1.toList != a1_1.toList) = false := bne_eq_false_iff_eq.mpr c4
  clear c4
  obtain rfl := Option.some.inj H
  go_enter Tryz.func42, Tryz.ntmps42
  go_wp2_with (first | ((with_reducible refine gate_dst (N := 2) rfl ?_); refine box_event ?hg (N := 2) ?hd (cs := #[.string a0_0, .string a0_1]) (t := 52) ?hr ?_; (case hd => rfl); (case hg => rfl); (case hr => first | (go_simp; done) | (go_simp; rfl)); intro gb266 hg w5 hbox hb; have n0_ := Aside0.mk (below_step aB hb); have n1_ := Aside0.mk (hbox); have n2_ := Aside0.mk ((by rw [hg]; exact (below_size aB) : w.heap.size ≤ gb266)); have n3_ := Aside0.mk ((by rw [hg]; exact (below_size aB) : w.heap.size ≤ gb266)); clear HB; have HB := n0_; have BK266 := n1_; have GW266 := n2_; have GE266 := n3_; clear n0_ n1_ n2_ n3_; clear hb hbox hg) | ((with_reducible refine gate_dst (N := 3) rfl ?_); refine box_event ?hg (N := 3) ?hd (cs := #[.string a1_0, .string a1_1]) (t := 52) ?hr ?_; (case hd => rfl); (case hg => rfl); (case hr => first | (go_simp; done) | (go_simp; rfl)); intro gb267 hg w6 hbox hb; have n0_ := Aside0.mk (blk_below (g := gb266) (o := .cells #[.string a0_0, .string a0_1] 52 (0, 0)) (aP BK266.out) hb); have n1_ := Aside0.mk (below_step aE hb); have n2_ := Aside0.mk (hbox); have n3_ := Aside0.mk ((by rw [hg]; exact (below_size aE) : w.heap.size ≤ gb267)); have n4_ := Aside0.mk ((by rw [hg]; exact (below_size aE) : w.heap.size ≤ gb267)); have n5_ := Aside0.mk ((by rw [hg]; exact Nat.ne_of_lt (blk_lt (g := gb266) (o := .cells #[.string a0_0, .string a0_1] 52 (0, 0)) (aP BK266.out)) : gb266 ≠ gb267)); have n6_ := Aside0.mk ((by rw [hg]; exact Nat.ne_of_gt (blk_lt (g := gb266) (o := .cells #[.string a0_0, .string a0_1] 52 (0, 0)) (aP BK266.out)) : gb267 ≠ gb266)); clear BK266; clear HB; have BK266 := n0_; have HB := n1_; have BK267 := n2_; have GW267 := n3_; have GE267 := n4_; have NB266_267 := n5_; have NB267_266 := n6_; clear n0_ n1_ n2_ n3_ n4_ n5_ n6_; clear hb hbox hg; have hnb7 := NB266_267.out; have hnc7 := NB267_266.out; have hcz8_0 : w6.cell? ⟨gb266, 0, none⟩ = some (.string a0_0) := (blk_cell BK266.out 0).trans rfl; have hcz8_1 : w6.cell? ⟨gb266, 1, none⟩ = some (.string a0_1) := (blk_cell BK266.out 1).trans rfl; have hfz8_0 := blk_frozen BK266.out 0; have hfz8_1 := blk_frozen BK266.out 1; have hcz9_0 : w6.cell? ⟨gb267, 0, none⟩ = some (.string a1_0) := (blk_cell BK267.out 0).trans rfl; have hcz9_1 : w6.cell? ⟨gb267, 1, none⟩ = some (.string a1_1) := (blk_cell BK267.out 1).trans rfl; have hfz9_0 := blk_frozen BK267.out 0; have hfz9_1 := blk_frozen BK267.out 1))
  go_ret
  exact ⟨aS, aE⟩
 rw [if_neg c4] at H
 have c4b0 : (a0_1.toList == a1_1.toList) = false := beq_eq_false_iff_ne.mpr c4
 have c4b1 : (a0_1.toList != a1_1.toList) = true := bne_iff_ne.mpr c4
 obtain rfl := Option.some.inj H
 go_enter Tryz.func42, Tryz.ntmps42
 go_wp2_with (first | ((with_reducible refine gate_dst (N := 2) rfl ?_); refine box_event ?hg (N := 2) ?hd (cs := #[.string a0_0, .string a0_1]) (t := 52) ?hr ?_; (case hd => rfl); (case hg => rfl); (case hr => first | (go_simp; done) | (go_simp; rfl)); intro gb266 hg w10 hbox hb; have n0_ := Aside0.mk (below_step aB hb); have n1_ := Aside0.mk (hbox); have n2_ := Aside0.mk ((by rw [hg]; exact (below_size aB) : w.heap.size ≤ gb266)); have n3_ := Aside0.mk ((by rw [hg]; exact (below_size aB) : w.heap.size ≤ gb266)); clear HB; have HB := n0_; have BK266 := n1_; have GW266 := n2_; have GE266 := n3_; clear n0_ n1_ n2_ n3_; clear hb hbox hg) | ((with_reducible refine gate_dst (N := 3) rfl ?_); refine box_event ?hg (N := 3) ?hd (cs := #[.string a1_0, .string a1_1]) (t := 52) ?hr ?_; (case hd => rfl); (case hg => rfl); (case hr => first | (go_simp; done) | (go_simp; rfl)); intro gb267 hg w11 hbox hb; have n0_ := Aside0.mk (blk_below (g := gb266) (o := .cells #[.string a0_0, .string a0_1] 52 (0, 0)) (aP BK266.out) hb); have n1_ := Aside0.mk (below_step aE hb); have n2_ := Aside0.mk (hbox); have n3_ := Aside0.mk ((by rw [hg]; exact (below_size aE) : w.heap.size ≤ gb267)); have n4_ := Aside0.mk ((by rw [hg]; exact (below_size aE) : w.heap.size ≤ gb267)); have n5_ := Aside0.mk ((by rw [hg]; exact Nat.ne_of_lt (blk_lt (g := gb266) (o := .cells #[.string a0_0, .string a0_1] 52 (0, 0)) (aP BK266.out)) : gb266 ≠ gb267)); have n6_ := Aside0.mk ((by rw [hg]; exact Nat.ne_of_gt (blk_lt (g := gb266) (o := .cells #[.string a0_0, .string a0_1] 52 (0, 0)) (aP BK266.out)) : gb267 ≠ gb266)); clear BK266; clear HB; have BK266 := n0_; have HB := n1_; have BK267 := n2_; have GW267 := n3_; have GE267 := n4_; have NB266_267 := n5_; have NB267_266 := n6_; clear n0_ n1_ n2_ n3_ n4_ n5_ n6_; clear hb hbox hg; have hnb12 := NB266_267.out; have hnc12 := NB267_266.out; have hcz13_0 : w11.cell? ⟨gb266, 0, none⟩ = some (.string a0_0) := (blk_cell BK266.out 0).trans rfl; have hcz13_1 : w11.cell? ⟨gb266, 1, none⟩ = some (.string a0_1) := (blk_cell BK266.out 1).trans rfl; have hfz13_0 := blk_frozen BK266.out 0; have hfz13_1 := blk_frozen BK266.out 1; have hcz14_0 : w11.cell? ⟨gb267, 0, none⟩ = some (.string a1_0) := (blk_cell BK267.out 0).trans rfl; have hcz14_1 : w11.cell? ⟨gb267, 1, none⟩ = some (.string a1_1) := (blk_cell BK267.out 1).trans rfl; have hfz14_0 := blk_frozen BK267.out 0; have hfz14_1 := blk_frozen BK267.out 1))
 go_ret
 exact ⟨aS, aE⟩
def laws_eqAttrS.l0 : Nat → List (S52) → List (S52) → Int → Option (Bool)
 | 0, _, _, _ => none
 | k + 1, x0, x1, x5 => if x5 < (x0.length : Int) then (if 0 ≤ x5 then (if x5 < (x1.length : Int) then ((laws_eqAttr.f ((rd_T52 x0 x5).f0) ((rd_T52 x0 x5).f1) ((rd_T52 x1 x5).f0) ((rd_T52 x1 x5).f1)).bind fun t270 => (if t270 = true then (laws_eqAttrS.l0 k x0 x1 (wrap64 (x5 + 1))) else (some false))) else (none)) else (none)) else (some true)
def laws_eqAttrS.f (k : Nat) (l0 : List (S52)) (l1 : List (S52)) : Option (Bool) := if (l0.length : Int) = (l1.length : Int) then (laws_eqAttrS.l0 k l0 l1 0) else (some false)
def laws_eqAttrS.T6 : Bool × List (List Nat × List Nat) := (true, [([], []), ([], []), ([0, 1], [0, 1]), ([2], [2]), ([], []), ([], []), ([4, 5], [4, 5]), ([6], [6]), ([3, 7], [3, 7]), ([8], [8])])
def laws_eqAttrS.B6 : List Nat := [0, 0, 3, 7, 0, 0, 48, 112, 255, 511]
theorem laws_eqAttrS.tab6 : rtab .any (opsOf Tryz.f31 6) = laws_eqAttrS.T6 := by kernel_rfl
theorem laws_eqAttrS.bits6 : waitsOk laws_eqAttrS.T6.2 laws_eqAttrS.B6 = true := by kernel_rfl
set_option maxHeartbeats 8000000 in
set_option maxRecDepth 100000 in
theorem laws_eqAttrS.calls (k : Nat) (A0 : Option Addr) (c0 : Nat) (l0 : List (S52)) (A1 : Option Addr) (c1 : Nat) (l1 : List (S52)) (r : Bool) (w : World) (hr0 : Kd.C k52 w A0 l0.length l0) (hc0 : l0.length ≤ c0) (hr1 : Kd.C k52 w A1 l1.length l1) (hc1 : l1.length ≤ c1) (h : laws_eqAttrS.f k l0 l1 = some r) :
  Calls Tryz.prog 31 #[.slice A0 l0.length c0, .slice A1 l1.length c1] w fun e w' => e = .returned (.bool r) ∧ Below w.heap.size w w' := by
 have hu52 := Tryz.underlying52
 have HR0 := Aside0.mk hr0
 have HC0 := Aside0.mk hc0
 clear hr0 hc0
 have HR1 := Aside0.mk hr1
 have HC1 := Aside0.mk hc1
 clear hr1 hc1
 have HB := Aside0.mk (Below.refl w.heap.size w)
 have H : (if (l0.length : Int) = (l1.length : Int) then (laws_eqAttrS.l0 k l0 l1 0) else (some false)) = some r := h
 clear h
 by_cases c3 : (l0.length : Int) = (l1.length : Int)
 rotate_left
 ·rw [if_neg c3] at H
  have c3b0 : ((l0.length : Int) == (l1.length : Int)) = false := beq_eq_false_iff_ne.mpr c3
  have c3b1 : ((l0.length : Int) != (l1.length : Int)) = true := bne_iff_ne.mpr c3
  have c3b2 : (l0.length == l1.length) = false := by first | simpa using c3 | (simp at c3 ⊢; omega)
  obtain rfl := Option.some.inj H
  go_enter Tryz.func31, Tryz.ntmps31
  go_wp2
  go_ret
  exact ⟨aS, aB⟩
 rw [if_pos c3] at H
 have c3b0 : ((l0.length : Int) == (l1.length : Int)) = true := beq_iff_eq.mpr c3
 have c3b1 : ((l0.length : Int) != (l1.length : Int)) = false := bne_eq_false_iff_eq.mpr c3
 have c3b2 : (l0.length == l1.length) = true := by first | simpa using c3 | (simp at c3 ⊢; omega)
 clear c3
 have H' := Aside0.mk H
 clear H
 go_enter Tryz.func31, Tryz.ntmps31
 go_wp2
 go_loopg [5] k (fun kq v5 w' => ∃ (x5_1 : Int), v5 = .int .i64 x5_1 ∧ Aside0 (laws_eqAttrS.l0 kq l0 l1 x5_1 = some r) ∧ Aside0 (kq ≤ k) ∧ Aside0 (Below w.heap.size w w'))
 case atStart => exact ⟨(0), aR, H', ⟨Nat.le_refl _⟩, ⟨aB⟩⟩
 case round =>
  clear H'
  try clear c1
  try clear p2
  try clear c3
  try clear c3b0
  try clear c3b1
  try clear c3b2
  obtain ⟨x5_1, rfl, HA, HK1, HB⟩ := hrel
  cases gk with
  | zero => exact absurd HA.out (by simp [laws_eqAttrS.l0])
  | succ k1 =>
   have H := HA.out
   clear HA
   simp only [laws_eqAttrS.l0] at H
   by_cases c4 : x5_1 < (l0.length : Int)
   rotate_left
   ·rw [if_neg c4] at H
    have c4b0 : decide (x5_1 < (l0.length : Int)) = false := decide_eq_false c4
    clear c4
    obtain rfl := Option.some.inj H
    go_wp2
    go_ret
    exact ⟨aS, aB⟩
   rw [if_pos c4] at H
   have c4b0 : decide (x5_1 < (l0.length : Int)) = true := decide_eq_true c4
   clear c4
   by_cases c5 : 0 ≤ x5_1
   rotate_left
   ·rw [if_neg c5] at H
    exact absurd H (by simp)
   rw [if_pos c5] at H
   have c5b0 : decide (0 ≤ x5_1) = true := decide_eq_true c5
   clear c5
   by_cases c6 : x5_1 < (l1.length : Int)
   rotate_left
   ·rw [if_neg c6] at H
    exact absurd H (by simp)
   rw [if_pos c6] at H
   have c6b0 : decide (x5_1 < (l1.length : Int)) = true := decide_eq_true c6
   clear c6
   replace H := Option.bind_eq_some_iff.mp H
   obtain ⟨t270, A70, H⟩ := H
   replace H : (if t270 = true then (laws_eqAttrS.l0 k1 l0 l1 (wrap64 (x5_1 + 1))) else (some false)) = some r := H
   have A7 := Aside0.mk A70
   clear A70
   by_cases c8 : t270 = true
   rotate_left
   ·replace c8 := Bool.eq_false_iff.mpr c8
    subst c8
    have H1 : (some false) = some r := by rw [if_neg (show ¬ (false = true) by decide)] at H; exact H
    clear H
    have H := H1
    clear H1
    obtain rfl := Option.some.inj H
    try go_wp2
    have n0_ := Aside0.mk (below_drew1 HB.out)
    clear HB
    have HB := n0_
    clear n0_
    have p268 : 0 ≤ (x5_1 : Int) := aD
    have q268 : x5_1 < (l0.length : Int) := aD
    obtain ⟨ad268, e268, hx268_0, hx268_1⟩ := at_T52 HR0.out x5_1 p268 q268
    have hw268_1 := hx268_1
    have hw268_0 := hx268_0
    cases e268
    replace hx268_0 := (HB.out.cell (World.block_lt_of_cell? w _ hx268_0)).trans hx268_0
    replace hx268_1 := (HB.out.cell (World.block_lt_of_cell? w _ hx268_1)).trans hx268_1
    replace p268 := eq_true p268
    replace q268 := eq_true q268
    have p269 : 0 ≤ (x5_1 : Int) := aD
    have q269 : x5_1 < (l1.length : Int) := aD
    obtain ⟨ad269, e269, hx269_0, hx269_1⟩ := at_T52 HR1.out x5_1 p269 q269
    have hw269_1 := hx269_1
    have hw269_0 := hx269_0
    cases e269
    replace hx269_0 := (HB.out.cell (World.block_lt_of_cell? w _ hx269_0)).trans hx269_0
    replace hx269_1 := (HB.out.cell (World.block_lt_of_cell? w _ hx269_1)).trans hx269_1
    replace p269 := eq_true p269
    replace q269 := eq_true q269
    refine start_ (n := 10) (S := fun w' => w'.cell? (ad268.add ((x5_1).toNat * 2)) = some (.string ((rd_T52 l0 x5_1).f0)) ∧ w'.cell? ⟨(ad268.add ((x5_1).toNat * 2)).block, (ad268.add ((x5_1).toNat * 2)).off + 1, none⟩ = some (.string ((rd_T52 l0 x5_1).f1)) ∧ w'.cell? (ad269.add ((x5_1).toNat * 2)) = some (.string ((rd_T52 l1 x5_1).f0)) ∧ w'.cell? ⟨(ad269.add ((x5_1).toNat * 2)).block, (ad269.add ((x5_1).toNat * 2)).off + 1, none⟩ = some (.string ((rd_T52 l1 x5_1).f1))) (ds := []) #[false, false, false, false, false, false, false, false, false, false] (by kernel_rfl) rfl rfl ⟨((HB.out.cell (World.block_lt_of_cell? w _ hw268_0)).trans hw268_0), ((HB.out.cell (World.block_lt_of_cell? w _ hw268_1)).trans hw268_1), ((HB.out.cell (World.block_lt_of_cell? w _ hw269_0)).trans hw269_0), ((HB.out.cell (World.block_lt_of_cell? w _ hw269_1)).trans hw269_1)⟩ (fun hHeld => ?_); refine with_tabW laws_eqAttrS.tab6 laws_eqAttrS.bits6 (fun HT_ HW_ => ?_)
    generalize wr.drew = w11 at HB hx268_0 hx268_1 hx269_0 hx269_1 hHeld ⊢
    refine pure_ (i := 0) (N := some 17) (v := ?_) (a' := ?_) #[true, false, false, false, false, false, false, false, false, false] rfl rfl (any_of HT_.out (by kernel_rfl)) (fun _ _ _ h => h) (Or.inl ⟨by rfl, ?_⟩) ?_ ?_
    rotate_left
    ·intro w'
     go_simp
     with_reducible rfl
    rotate_left
    ·simp only [Act.put, List.setIfInBounds_toArray, List.set_cons_zero, List.set_cons_succ, i64_w, i32_w]
     rfl
    refine pure_ (i := 1) (N := some 18) (v := ?_) (a' := ?_) #[true, true, false, false, false, false, false, false, false, false] rfl rfl (any_of HT_.out (by kernel_rfl)) (fun _ _ _ h => h) (Or.inl ⟨by rfl, ?_⟩) ?_ ?_
    rotate_left
    ·intro w'
     go_simp
     with_reducible rfl
    rotate_left
    ·simp only [Act.put, List.setIfInBounds_toArray, List.set_cons_zero, List.set_cons_succ, i64_w, i32_w]
     rfl
    refine pure_ (i := 2) (N := some 19) (v := ?_) (a' := ?_) #[true, true, true, false, false, false, false, false, false, false] rfl rfl (any_of HT_.out (by kernel_rfl)) (fun _ _ _ h => h) (Or.inl ⟨by rfl, ?_⟩) ?_ ?_
    rotate_left
    ·intro w'
     go_simp
     with_reducible rfl
    rotate_left
    ·simp only [Act.put, List.setIfInBounds_toArray, List.set_cons_zero, List.set_cons_succ, i64_w, i32_w]
     rfl
    refine pure_ (i := 4) (N := some 21) (v := ?_) (a' := ?_) #[true, true, true, false, true, false, false, false, false, false] rfl rfl (any_of HT_.out (by kernel_rfl)) (fun _ _ _ h => h) (Or.inl ⟨by rfl, ?_⟩) ?_ ?_
    rotate_left
    ·intro w'
     go_simp
     with_reducible rfl
    rotate_left
    ·simp only [Act.put, List.setIfInBounds_toArray, List.set_cons_zero, List.set_cons_succ, i64_w, i32_w]
     rfl
    refine pure_ (i := 5) (N := some 22) (v := ?_) (a' := ?_) #[true, true, true, false, true, true, false, false, false, false] rfl rfl (any_of HT_.out (by kernel_rfl)) (fun _ _ _ h => h) (Or.inl ⟨by rfl, ?_⟩) ?_ ?_
    rotate_left
    ·intro w'
     go_simp
     with_reducible rfl
    rotate_left
    ·simp only [Act.put, List.setIfInBounds_toArray, List.set_cons_zero, List.set_cons_succ, i64_w, i32_w]
     rfl
    refine pure_ (i := 6) (N := some 23) (v := ?_) (a' := ?_) #[true, true, true, false, true, true, true, false, false, false] rfl rfl (any_of HT_.out (by kernel_rfl)) (fun _ _ _ h => h) (Or.inl ⟨by rfl, ?_⟩) ?_ ?_
    rotate_left
    ·intro w'
     go_simp
     with_reducible rfl
    rotate_left
    ·simp only [Act.put, List.setIfInBounds_toArray, List.set_cons_zero, List.set_cons_succ, i64_w, i32_w]
     rfl
    refine take_ (i := 3) (N := some 20) (v := ?_) (a' := ?_) #[true, true, true, true, true, true, true, false, false, false] rfl rfl (take_ofW HT_.out HW_.out (by kernel_rfl)) (fun _ _ _ h => h) (Or.inl ⟨by rfl, ?_⟩) hHeld ?_ ?_
    rotate_left
    ·rintro w' ⟨s0, s1, s2, s3⟩
     go_simp
     with_reducible rfl
    rotate_left
    ·simp only [Act.put, List.setIfInBounds_toArray, List.set_cons_zero, List.set_cons_succ, i64_w, i32_w]
     rfl
    refine take_ (i := 7) (N := some 24) (v := ?_) (a' := ?_) #[true, true, true, true, true, true, true, true, false, false] rfl rfl (take_ofW HT_.out HW_.out (by kernel_rfl)) (fun _ _ _ h => h) (Or.inl ⟨by rfl, ?_⟩) hHeld ?_ ?_
    rotate_left
    ·rintro w' ⟨s0, s1, s2, s3⟩
     go_simp
     with_reducible rfl
    rotate_left
    ·simp only [Act.put, List.setIfInBounds_toArray, List.set_cons_zero, List.set_cons_succ, i64_w, i32_w]
     rfl
    refine one_ (i := 8) (N := some 25) #[true, true, true, true, true, true, true, true, true, false] rfl rfl (one_of HT_.out (by kernel_rfl)) (by decide) (fun K hK => ?_)
    refine goes_ Tryz.func42 (by kernel_rfl) rfl #[.agg #[.string ((rd_T52 l0 x5_1).f0), .string ((rd_T52 l0 x5_1).f1)], .agg #[.string ((rd_T52 l1 x5_1).f0), .string ((rd_T52 l1 x5_1).f1)]] (by rfl) rfl rfl aG ?_
    with_reducible refine (laws_eqAttr.calls ((rd_T52 l0 x5_1).f0) ((rd_T52 l0 x5_1).f1) ((rd_T52 l1 x5_1).f0) ((rd_T52 l1 x5_1).f1) false _ A7.out).mono ?_
    rintro e w12 ⟨rfl, hb⟩
    refine ⟨_, rfl, ?_⟩
    have n0_ := Aside0.mk (below_step aB hb)
    clear HB
    have HB := n0_
    clear n0_
    (try clear hb)
    (try clear hb2)
    (try clear hk)
    (try clear hi)
    refine hK.out _ _ ⟨((HB.out.cell (World.block_lt_of_cell? w _ hw268_0)).trans hw268_0), ((HB.out.cell (World.block_lt_of_cell? w _ hw268_1)).trans hw268_1), ((HB.out.cell (World.block_lt_of_cell? w _ hw269_0)).trans hw269_0), ((HB.out.cell (World.block_lt_of_cell? w _ hw269_1)).trans hw269_1)⟩ (fun hHeld => ?_)
    clear hK K
    refine norm_ (a' := ?_) ?_ ?_
    rotate_left
    ·show Act.put _ (some 25) _ = _
     simp only [Act.put, List.setIfInBounds_toArray, List.set_cons_zero, List.set_cons_succ, i64_w, i32_w]
     rfl
    refine pure_ (i := 9) (N := some 26) (v := ?_) (a' := ?_) #[true, true, true, true, true, true, true, true, true, true] rfl rfl (any_of HT_.out (by kernel_rfl)) (fun _ _ _ h => h) (Or.inl ⟨by rfl, ?_⟩) ?_ ?_
    rotate_left
    ·intro w'
     go_simp
     with_reducible rfl
    rotate_left
    ·simp only [Act.put, List.setIfInBounds_toArray, List.set_cons_zero, List.set_cons_succ, i64_w, i32_w]
     rfl
    refine done_ (done_of HT_.out (by kernel_rfl)) ?_
    try go_wp2
    go_ret
    exact ⟨aS, aB⟩
   subst c8
   have H1 : (laws_eqAttrS.l0 k1 l0 l1 (wrap64 (x5_1 + 1))) = some r := by rw [if_pos rfl] at H; exact H
   clear H
   have H := H1
   clear H1
   have H' := Aside0.mk H
   clear H
   try go_wp2
   have n0_ := Aside0.mk (below_drew1 HB.out)
   clear HB
   have HB := n0_
   clear n0_
   have p268 : 0 ≤ (x5_1 : Int) := aD
   have q268 : x5_1 < (l0.length : Int) := aD
   obtain ⟨ad268, e268, hx268_0, hx268_1⟩ := at_T52 HR0.out x5_1 p268 q268
   have hw268_1 := hx268_1
   have hw268_0 := hx268_0
   cases e268
   replace hx268_0 := (HB.out.cell (World.block_lt_of_cell? w _ hx268_0)).trans hx268_0
   replace hx268_1 := (HB.out.cell (World.block_lt_of_cell? w _ hx268_1)).trans hx268_1
   replace p268 := eq_true p268
   replace q268 := eq_true q268
   have p269 : 0 ≤ (x5_1 : Int) := aD
   have q269 : x5_1 < (l1.length : Int) := aD
   obtain ⟨ad269, e269, hx269_0, hx269_1⟩ := at_T52 HR1.out x5_1 p269 q269
   have hw269_1 := hx269_1
   have hw269_0 := hx269_0
   cases e269
   replace hx269_0 := (HB.out.cell (World.block_lt_of_cell? w _ hx269_0)).trans hx269_0
   replace hx269_1 := (HB.out.cell (World.block_lt_of_cell? w _ hx269_1)).trans hx269_1
   replace p269 := eq_true p269
   replace q269 := eq_true q269
   refine start_ (n := 10) (S := fun w' => w'.cell? (ad268.add ((x5_1).toNat * 2)) = some (.string ((rd_T52 l0 x5_1).f0)) ∧ w'.cell? ⟨(ad268.add ((x5_1).toNat * 2)).block, (ad268.add ((x5_1).toNat * 2)).off + 1, none⟩ = some (.string ((rd_T52 l0 x5_1).f1)) ∧ w'.cell? (ad269.add ((x5_1).toNat * 2)) = some (.string ((rd_T52 l1 x5_1).f0)) ∧ w'.cell? ⟨(ad269.add ((x5_1).toNat * 2)).block, (ad269.add ((x5_1).toNat * 2)).off + 1, none⟩ = some (.string ((rd_T52 l1 x5_1).f1))) (ds := []) #[false, false, false, false, false, false, false, false, false, false] (by kernel_rfl) rfl rfl ⟨((HB.out.cell (World.block_lt_of_cell? w _ hw268_0)).trans hw268_0), ((HB.out.cell (World.block_lt_of_cell? w _ hw268_1)).trans hw268_1), ((HB.out.cell (World.block_lt_of_cell? w _ hw269_0)).trans hw269_0), ((HB.out.cell (World.block_lt_of_cell? w _ hw269_1)).trans hw269_1)⟩ (fun hHeld => ?_); refine with_tabW laws_eqAttrS.tab6 laws_eqAttrS.bits6 (fun HT_ HW_ => ?_)
   generalize wr.drew = w9 at HB hx268_0 hx268_1 hx269_0 hx269_1 hHeld ⊢
   refine pure_ (i := 0) (N := some 17) (v := ?_) (a' := ?_) #[true, false, false, false, false, false, false, false, false, false] rfl rfl (any_of HT_.out (by kernel_rfl)) (fun _ _ _ h => h) (Or.inl ⟨by rfl, ?_⟩) ?_ ?_
   rotate_left
   ·intro w'
    go_simp
    with_reducible rfl
   rotate_left
   ·simp only [Act.put, List.setIfInBounds_toArray, List.set_cons_zero, List.set_cons_succ, i64_w, i32_w]
    rfl
   refine pure_ (i := 1) (N := some 18) (v := ?_) (a' := ?_) #[true, true, false, false, false, false, false, false, false, false] rfl rfl (any_of HT_.out (by kernel_rfl)) (fun _ _ _ h => h) (Or.inl ⟨by rfl, ?_⟩) ?_ ?_
   rotate_left
   ·intro w'
    go_simp
    with_reducible rfl
   rotate_left
   ·simp only [Act.put, List.setIfInBounds_toArray, List.set_cons_zero, List.set_cons_succ, i64_w, i32_w]
    rfl
   refine pure_ (i := 2) (N := some 19) (v := ?_) (a' := ?_) #[true, true, true, false, false, false, false, false, false, false] rfl rfl (any_of HT_.out (by kernel_rfl)) (fun _ _ _ h => h) (Or.inl ⟨by rfl, ?_⟩) ?_ ?_
   rotate_left
   ·intro w'
    go_simp
    with_reducible rfl
   rotate_left
   ·simp only [Act.put, List.setIfInBounds_toArray, List.set_cons_zero, List.set_cons_succ, i64_w, i32_w]
    rfl
   refine pure_ (i := 4) (N := some 21) (v := ?_) (a' := ?_) #[true, true, true, false, true, false, false, false, false, false] rfl rfl (any_of HT_.out (by kernel_rfl)) (fun _ _ _ h => h) (Or.inl ⟨by rfl, ?_⟩) ?_ ?_
   rotate_left
   ·intro w'
    go_simp
    with_reducible rfl
   rotate_left
   ·simp only [Act.put, List.setIfInBounds_toArray, List.set_cons_zero, List.set_cons_succ, i64_w, i32_w]
    rfl
   refine pure_ (i := 5) (N := some 22) (v := ?_) (a' := ?_) #[true, true, true, false, true, true, false, false, false, false] rfl rfl (any_of HT_.out (by kernel_rfl)) (fun _ _ _ h => h) (Or.inl ⟨by rfl, ?_⟩) ?_ ?_
   rotate_left
   ·intro w'
    go_simp
    with_reducible rfl
   rotate_left
   ·simp only [Act.put, List.setIfInBounds_toArray, List.set_cons_zero, List.set_cons_succ, i64_w, i32_w]
    rfl
   refine pure_ (i := 6) (N := some 23) (v := ?_) (a' := ?_) #[true, true, true, false, true, true, true, false, false, false] rfl rfl (any_of HT_.out (by kernel_rfl)) (fun _ _ _ h => h) (Or.inl ⟨by rfl, ?_⟩) ?_ ?_
   rotate_left
   ·intro w'
    go_simp
    with_reducible rfl
   rotate_left
   ·simp only [Act.put, List.setIfInBounds_toArray, List.set_cons_zero, List.set_cons_succ, i64_w, i32_w]
    rfl
   refine take_ (i := 3) (N := some 20) (v := ?_) (a' := ?_) #[true, true, true, true, true, true, true, false, false, false] rfl rfl (take_ofW HT_.out HW_.out (by kernel_rfl)) (fun _ _ _ h => h) (Or.inl ⟨by rfl, ?_⟩) hHeld ?_ ?_
   rotate_left
   ·rintro w' ⟨s0, s1, s2, s3⟩
    go_simp
    with_reducible rfl
   rotate_left
   ·simp only [Act.put, List.setIfInBounds_toArray, List.set_cons_zero, List.set_cons_succ, i64_w, i32_w]
    rfl
   refine take_ (i := 7) (N := some 24) (v := ?_) (a' := ?_) #[true, true, true, true, true, true, true, true, false, false] rfl rfl (take_ofW HT_.out HW_.out (by kernel_rfl)) (fun _ _ _ h => h) (Or.inl ⟨by rfl, ?_⟩) hHeld ?_ ?_
   rotate_left
   ·rintro w' ⟨s0, s1, s2, s3⟩
    go_simp
    with_reducible rfl
   rotate_left
   ·simp only [Act.put, List.setIfInBounds_toArray, List.set_cons_zero, List.set_cons_succ, i64_w, i32_w]
    rfl
   refine one_ (i := 8) (N := some 25) #[true, true, true, true, true, true, true, true, true, false] rfl rfl (one_of HT_.out (by kernel_rfl)) (by decide) (fun K hK => ?_)
   refine goes_ Tryz.func42 (by kernel_rfl) rfl #[.agg #[.string ((rd_T52 l0 x5_1).f0), .string ((rd_T52 l0 x5_1).f1)], .agg #[.string ((rd_T52 l1 x5_1).f0), .string ((rd_T52 l1 x5_1).f1)]] (by rfl) rfl rfl aG ?_
   with_reducible refine (laws_eqAttr.calls ((rd_T52 l0 x5_1).f0) ((rd_T52 l0 x5_1).f1) ((rd_T52 l1 x5_1).f0) ((rd_T52 l1 x5_1).f1) true _ A7.out).mono ?_
   rintro e w10 ⟨rfl, hb⟩
   refine ⟨_, rfl, ?_⟩
   have n0_ := Aside0.mk (below_step aB hb)
   clear HB
   have HB := n0_
   clear n0_
   (try clear hb)
   (try clear hb2)
   (try clear hk)
   (try clear hi)
   refine hK.out _ _ ⟨((HB.out.cell (World.block_lt_of_cell? w _ hw268_0)).trans hw268_0), ((HB.out.cell (World.block_lt_of_cell? w _ hw268_1)).trans hw268_1), ((HB.out.cell (World.block_lt_of_cell? w _ hw269_0)).trans hw269_0), ((HB.out.cell (World.block_lt_of_cell? w _ hw269_1)).trans hw269_1)⟩ (fun hHeld => ?_)
   clear hK K
   refine norm_ (a' := ?_) ?_ ?_
   rotate_left
   ·show Act.put _ (some 25) _ = _
    simp only [Act.put, List.setIfInBounds_toArray, List.set_cons_zero, List.set_cons_succ, i64_w, i32_w]
    rfl
   refine pure_ (i := 9) (N := some 26) (v := ?_) (a' := ?_) #[true, true, true, true, true, true, true, true, true, true] rfl rfl (any_of HT_.out (by kernel_rfl)) (fun _ _ _ h => h) (Or.inl ⟨by rfl, ?_⟩) ?_ ?_
   rotate_left
   ·intro w'
    go_simp
    with_reducible rfl
   rotate_left
   ·simp only [Act.put, List.setIfInBounds_toArray, List.set_cons_zero, List.set_cons_succ, i64_w, i32_w]
    rfl
   refine done_ (done_of HT_.out (by kernel_rfl)) ?_
   try go_wp2
   go_roundg k1
   case measure => have := HK1.out; omega
   case rel => exact ⟨(wrap64 (x5_1 + 1)), aR, H', ⟨by have := HK1.out; omega⟩, ⟨aB⟩⟩
end Go.Proofs.YtbhklkpjjpkblaaGreatDoor.PP
