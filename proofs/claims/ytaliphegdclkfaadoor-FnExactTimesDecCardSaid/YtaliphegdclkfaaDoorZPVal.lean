/- Rows of digits as numbers. -/
import Derived.Test.YtaliphegdclkfaaDoorPZx0
import Derived.Test.YtaliphegdclkfaaDoorZPBase
namespace Go.Proofs.YtaliphegdclkfaaDoor.PZ
open Go.RowKit Go.Proofs.YtaliphegdclkfaaDoorW.PrintWords Go.Proofs.YtaliphegdclkfaaDoorW.PrintMore
set_option linter.unusedVariables false
set_option linter.unusedSimpArgs false
/-- The number that a row of digits is, the greatest one first. -/
def val : List Int → Int
  | [] => 0
  | d :: l => d * 10 ^ l.length + val l
theorem p10_pos (n : Nat) : (0 : Int) < 10 ^ n := Int.pow_pos (by decide)
theorem p10_succ (n : Nat) : (10 : Int) ^ (n + 1) = 10 ^ n * 10 := Int.pow_succ ..
theorem val_append : ∀ a b : List Int, val (a ++ b) = val a * 10 ^ b.length + val b
  | [], b => by simp [val]
  | d :: a, b => by
    have ih := val_append a b
    rw [List.cons_append, val, val, ih, List.length_append, Int.pow_add, Int.add_mul, Int.mul_assoc, Int.add_assoc]
theorem val_one (x : Int) : val [x] = x := by simp [val]
theorem val_take (l : List Int) (n : Nat) (h : n < l.length) : val (l.take (n + 1)) = val (l.take n) * 10 + l[n] := by
  rw [List.take_succ_eq_append_getElem h, val_append, val_one]
  rfl
theorem val_drop (l : List Int) (n : Nat) (h : n < l.length) : val (l.drop n) = l[n] * 10 ^ (l.length - (n + 1)) + val (l.drop (n + 1)) := by
  rw [List.drop_eq_getElem_cons h, val, List.length_drop]
theorem val_set : ∀ (l : List Int) (i : Nat) (v : Int) (h : i < l.length), val (l.set i v) = val l + (v - l[i]) * 10 ^ (l.length - (i + 1))
  | d :: l, 0, v, h => by
    simp only [List.set_cons_zero, val, List.getElem_cons_zero, List.length_cons, Int.sub_mul, Nat.zero_add, Nat.add_sub_cancel]
    omega
  | d :: l, i + 1, v, h => by
    have ih := val_set l i v (by simpa using h)
    simp only [List.set_cons_succ, val, List.length_set, ih, List.getElem_cons_succ, List.length_cons]
    rw [show l.length + 1 - (i + 1 + 1) = l.length - (i + 1) by omega]
    omega
def digsI (l : List Int) : Prop := ∀ x ∈ l, 0 ≤ x ∧ x ≤ 9
theorem val_bound : ∀ l : List Int, digsI l → 0 ≤ val l ∧ val l < 10 ^ l.length
  | [], _ => by simp [val]
  | d :: l, h => by
    have ih := val_bound l (fun x hx => h x (List.mem_cons_of_mem _ hx))
    have hd := h d List.mem_cons_self
    have hp := p10_pos l.length
    have h1 : 0 ≤ d * 10 ^ l.length := Int.mul_nonneg hd.1 (by omega)
    have h2 : d * 10 ^ l.length ≤ 9 * 10 ^ l.length := Int.mul_le_mul_of_nonneg_right hd.2 (by omega)
    rw [val, List.length_cons, p10_succ]
    omega
theorem val_inj : ∀ a b : List Int, a.length = b.length → digsI a → digsI b → val a = val b → a = b
  | [], [], _, _, _, _ => rfl
  | d :: a, e :: b, hl, ha, hb, h => by
    have hl' : a.length = b.length := by simpa using hl
    have ba := val_bound a (fun x hx => ha x (List.mem_cons_of_mem _ hx))
    have bb := val_bound b (fun x hx => hb x (List.mem_cons_of_mem _ hx))
    rw [val, val, hl'] at h
    rw [hl'] at ba
    have hp := p10_pos b.length
    have key : ∀ x y : Int, x < y → x * 10 ^ b.length + 10 ^ b.length ≤ y * 10 ^ b.length := by
      intro x y hxy
      have := Int.mul_le_mul_of_nonneg_right (show x + 1 ≤ y by omega) (show (0 : Int) ≤ 10 ^ b.length by omega)
      rw [Int.add_mul, Int.one_mul] at this
      exact this
    have hde : d = e := by
      rcases Int.lt_or_le d e with c | c
      · have := key d e c; omega
      · rcases Int.lt_or_le e d with c2 | c2
        · have := key e d c2; omega
        · omega
    subst hde
    rw [val_inj a b hl' (fun x hx => ha x (List.mem_cons_of_mem _ hx)) (fun x hx => hb x (List.mem_cons_of_mem _ hx)) (by omega)]
theorem val_zeros : ∀ n : Nat, val (List.replicate n 0) = 0
  | 0 => rfl
  | n + 1 => by rw [List.replicate_succ, val, val_zeros n]; simp
end Go.Proofs.YtaliphegdclkfaaDoor.PZ
