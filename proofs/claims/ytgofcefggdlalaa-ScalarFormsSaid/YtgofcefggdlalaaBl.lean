/-
  Bytes as numbers, the lowest first. No program is named here.
-/
import Derived.Test.YtgofcefggdlalaaNm
namespace Go.Proofs.Ytgofcefggdlalaa
open Go.RowKit

/-- The number of bytes, the lowest first. -/
def bval : List UInt8 → Nat
  | [] => 0
  | c :: l => c.toNat + 256 * bval l
/-- The k lowest bytes of a number. -/
def leB : Nat → Nat → List UInt8
  | 0, _ => []
  | k + 1, n => UInt8.ofNat (n % 256) :: leB k (n / 256)
theorem leB_len : ∀ (k n : Nat), (leB k n).length = k
  | 0, _ => rfl
  | k + 1, n => by simp [leB, leB_len k]
theorem bval_lt : ∀ l : List UInt8, bval l < 256 ^ l.length
  | [] => by simp [bval]
  | c :: l => by
    have := bval_lt l
    have := UInt8.toNat_lt c
    simp only [bval, List.length_cons, Nat.pow_succ]
    omega
theorem bval_leB : ∀ (k n : Nat), bval (leB k n) = n % 256 ^ k
  | 0, n => by simp [leB, bval, Nat.mod_one]
  | k + 1, n => by
    simp only [leB, bval, bval_leB k, Nat.pow_succ]
    rw [UInt8.toNat_ofNat', Nat.mod_eq_of_lt (by omega), Nat.mul_comm (256 ^ k) 256, Nat.mod_mul]
theorem leB_bval : ∀ l : List UInt8, leB l.length (bval l) = l
  | [] => rfl
  | c :: l => by
    have hc := UInt8.toNat_lt c
    simp only [bval, List.length_cons, leB]
    rw [show (c.toNat + 256 * bval l) % 256 = c.toNat from by omega, show (c.toNat + 256 * bval l) / 256 = bval l from by omega, leB_bval l]
    simp
theorem bval_append : ∀ (l m : List UInt8), bval (l ++ m) = bval l + 256 ^ l.length * bval m
  | [], m => by simp [bval]
  | c :: l, m => by
    simp only [List.cons_append, bval, bval_append l m, List.length_cons, Nat.pow_succ]
    rw [Nat.mul_add, Nat.add_assoc, ← Nat.mul_assoc, Nat.mul_comm 256 (256 ^ l.length)]
theorem bval_take {l : List UInt8} {k : Nat} {c : UInt8} (h : l[k]? = some c) : bval (l.take (k + 1)) = bval (l.take k) + c.toNat * 256 ^ k := by
  have hk := (List.getElem?_eq_some_iff.1 h).1
  rw [List.take_add_one, h, Option.toList_some, bval_append, List.length_take, Nat.min_eq_left (by omega)]
  simp only [bval, Nat.mul_zero, Nat.add_zero]
  rw [Nat.mul_comm]
theorem bval_inj {l m : List UInt8} (h : l.length = m.length) (hv : bval l = bval m) : l = m := by
  rw [← leB_bval l, ← leB_bval m, h, hv]
theorem leB_add : ∀ (k m x r : Nat), x < 256 ^ k → leB (k + m) (x + 256 ^ k * r) = leB k x ++ leB m r
  | 0, m, x, r, h => by
    have : x = 0 := by simpa using h
    simp [leB, this]
  | k + 1, m, x, r, h => by
    rw [show k + 1 + m = (k + m) + 1 from by omega]
    simp only [leB, List.cons_append]
    have e1 : (x + 256 ^ (k + 1) * r) % 256 = x % 256 := by
      rw [Nat.pow_succ, Nat.mul_comm (256 ^ k) 256, Nat.mul_assoc]
      omega
    have e2 : (x + 256 ^ (k + 1) * r) / 256 = x / 256 + 256 ^ k * r := by
      rw [Nat.pow_succ, Nat.mul_comm (256 ^ k) 256, Nat.mul_assoc]
      omega
    rw [e1, e2, leB_add k m (x / 256) r]
    rw [Nat.pow_succ] at h
    omega
theorem leB_zero : ∀ k : Nat, leB k 0 = List.replicate k 0
  | 0 => rfl
  | k + 1 => by
    simp only [leB, List.replicate_succ]
    rw [show 0 / 256 = 0 from rfl, leB_zero k]
    rfl
theorem bval_zeros (k : Nat) : bval (List.replicate k 0) = 0 := by rw [← leB_zero, bval_leB]; simp
/-- Words as bytes. -/
def spB (xs : List Nat) : List UInt8 := xs.flatMap (leB 8)
theorem spB_len (xs : List Nat) : (spB xs).length = 8 * xs.length := by
  induction xs with
  | nil => rfl
  | cons x xs ih => rw [spB, List.flatMap_cons, List.length_append, leB_len]; unfold spB at ih; rw [ih, List.length_cons]; omega
theorem spB_eq : ∀ (xs : List Nat), Words xs → spB xs = leB (8 * xs.length) (lv xs)
  | [], _ => rfl
  | x :: xs, h => by
    have hx := h x (List.mem_cons_self ..)
    rw [spB, List.flatMap_cons]
    have := spB_eq xs fun y hy => h y (List.mem_cons_of_mem _ hy)
    unfold spB at this
    rw [this, List.length_cons, show 8 * (xs.length + 1) = 8 + 8 * xs.length from by omega, lv, show (18446744073709551616 : Nat) = 256 ^ 8 from by decide, leB_add 8 _ x _ (by simpa using hx)]
theorem spB_take (xs : List Nat) (k x : Nat) (h : xs[k]? = some x) : spB (xs.take (k + 1)) = spB (xs.take k) ++ leB 8 x := by
  unfold spB
  rw [List.take_add_one, h]
  simp
end Go.Proofs.Ytgofcefggdlalaa
