/-
  Layer 8, plain: the year of a day, the month of a day of the year.
-/
import Derived.Test.YtbogjebipnmckaaDoorDa
namespace Go.Proofs.YtbogjebipnmckaaDoor
open Go.RowKit
set_option linter.unusedSimpArgs false

theorem yrs_step (y : Int) (h0 : 0 ≤ y) (h : y ≤ 9999) : yrs (y + 1) = yrs y + 365 + if lpY y = true then 1 else 0 := by
  unfold yrs
  by_cases hl : lpY y = true
  · rw [if_pos hl]
    rw [lpY_iff] at hl
    omega
  · rw [if_neg hl]
    have : lpY y = false := by simpa using hl
    rw [lpY_no] at this
    omega
theorem yrs_mono {a b : Nat} (h : a ≤ b) (hb : b ≤ 10000) : yrs (a : Int) ≤ yrs (b : Int) := by
  induction b with
  | zero =>
    obtain rfl : a = 0 := by omega
    exact Int.le_refl _
  | succ b ih =>
    by_cases hab : a = b + 1
    · subst hab
      exact Int.le_refl _
    · have h1 := ih (by omega) (by omega)
      have h2 := yrs_step (b : Int) (by omega) (by omega)
      have h3 : ((b + 1 : Nat) : Int) = (b : Int) + 1 := by omega
      rw [h3, h2]
      split <;> omega
theorem yrs_366 (y : Int) (h0 : 0 ≤ y) (h : y ≤ 10000) : yrs y ≤ 366 * y := by unfold yrs; omega
theorem yrs_10000 : yrs 10000 = 3652425 := by unfold yrs; rfl
theorem yrs_0 : yrs 0 = 0 := by unfold yrs; rfl
theorem yrs_1970 : yrs 1970 = 719528 := by unfold yrs; rfl
theorem cuM_12 (y : Int) : cuM y 12 = 365 + if lpY y = true then 1 else 0 := by
  have hm : ∀ k, moD y k = mtL.getD k 0 + if k = 1 ∧ lpY y = true then 1 else 0 := fun k => by unfold moD; rfl
  simp only [cuM, hm, mtL]
  by_cases hl : lpY y = true
  · simp [hl]
  · simp [hl]
/-- The year of a day, counted from the year 0 on. -/
def yF : Nat → Int → Nat
  | 0, _ => 0
  | k + 1, D => if yrs ((k + 1 : Nat) : Int) ≤ D then k + 1 else yF k D
@[irreducible] def yOf (D : Int) : Nat := yF 9999 D
theorem yF_eq (D : Int) (y : Nat) (h1 : yrs (y : Int) ≤ D) (h2 : D < yrs ((y + 1 : Nat) : Int)) : ∀ k, y ≤ k → k ≤ 9999 → yF k D = y
  | 0, h, _ => by
    rw [yF]
    omega
  | k + 1, h, hk => by
    rw [yF]
    by_cases hy : y = k + 1
    · subst hy
      rw [if_pos h1]
    · have := yrs_mono (show y + 1 ≤ k + 1 by omega) (by omega)
      rw [if_neg (by omega)]
      exact yF_eq D y h1 h2 k (by omega) (by omega)
theorem yOf_eq {D : Int} {y : Nat} (hy : y ≤ 9999) (h1 : yrs (y : Int) ≤ D) (h2 : D < yrs ((y : Int) + 1)) : y = yOf D := by
  unfold yOf
  exact (yF_eq D y h1 (by rw [show ((y + 1 : Nat) : Int) = (y : Int) + 1 by omega]; exact h2) 9999 hy (by omega)).symm
theorem cuM_mono (y : Int) {a b : Nat} (h : a ≤ b) (hb : b ≤ 12) : cuM y a ≤ cuM y b := by
  induction b with
  | zero =>
    obtain rfl : a = 0 := by omega
    exact Int.le_refl _
  | succ b ih =>
    by_cases hab : a = b + 1
    · subst hab
      exact Int.le_refl _
    · have h1 := ih (by omega) (by omega)
      have h2 := moD_bd y b (by omega)
      rw [cuM]
      omega
/-- The month (from 0 on) of a day of the year. -/
def mF (y : Int) : Nat → Int → Nat
  | 0, _ => 0
  | k + 1, L => if cuM y (k + 1) ≤ L then k + 1 else mF y k L
@[irreducible] def mOf (y L : Int) : Nat := mF y 11 L
theorem mF_eq (y L : Int) (m : Nat) (h1 : cuM y m ≤ L) (h2 : L < cuM y (m + 1)) : ∀ k, m ≤ k → k ≤ 11 → mF y k L = m
  | 0, h, _ => by
    rw [mF]
    omega
  | k + 1, h, hk => by
    rw [mF]
    by_cases hy : m = k + 1
    · subst hy
      rw [if_pos h1]
    · have := cuM_mono y (show m + 1 ≤ k + 1 by omega) (by omega)
      rw [if_neg (by omega)]
      exact mF_eq y L m h1 h2 k (by omega) (by omega)
theorem mOf_eq {y L : Int} {m : Nat} (hm : m ≤ 11) (h1 : cuM y m ≤ L) (h2 : L < cuM y (m + 1)) : m = mOf y L := by
  unfold mOf
  exact (mF_eq y L m h1 h2 11 hm (by omega)).symm
end Go.Proofs.YtbogjebipnmckaaDoor
