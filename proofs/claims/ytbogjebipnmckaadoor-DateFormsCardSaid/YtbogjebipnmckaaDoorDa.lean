/-
  Layer 8: the calendar: Leap, month, years, Days, the program's and the page's.
-/
import Derived.Test.YtbogjebipnmckaaDoorChecked
import Derived.Test.YtbogjebipnmckaaDoorTy
namespace Go.Proofs.YtbogjebipnmckaaDoor
open Go.RowKit
set_option linter.unusedSimpArgs false

@[irreducible] def lpY (y : Int) : Bool := decide (0 ≤ y ∧ y ≤ 9999 ∧ y % 4 = 0 ∧ (y % 100 ≠ 0 ∨ y % 400 = 0))
theorem lpY_iff (y : Int) : lpY y = true ↔ (0 ≤ y ∧ y ≤ 9999 ∧ y % 4 = 0 ∧ (y % 100 ≠ 0 ∨ y % 400 = 0)) := by unfold lpY; exact decide_eq_true_iff
theorem lpY_no (y : Int) : lpY y = false ↔ ¬ (0 ≤ y ∧ y ≤ 9999 ∧ y % 4 = 0 ∧ (y % 100 ≠ 0 ∨ y % 400 = 0)) := by unfold lpY; exact decide_eq_false_iff_not
def mtL : List Int := [31, 28, 31, 30, 31, 30, 31, 31, 30, 31, 30, 31]
/-- The days of month number k + 1. -/
@[irreducible] def moD (y : Int) (k : Nat) : Int := mtL.getD k 0 + if k = 1 ∧ lpY y = true then 1 else 0
theorem moD_bd (y : Int) (k : Nat) (h : k < 12) : 28 ≤ moD y k ∧ moD y k ≤ 31 := by
  unfold moD
  have : ∀ j : Fin 12, 28 ≤ mtL.getD j.val 0 ∧ mtL.getD j.val 0 ≤ 31 ∧ (j.val = 1 → mtL.getD j.val 0 = 28) := by decide
  have := this ⟨k, h⟩
  simp only at this
  split
  · rename_i h1
    have := this.2.2 h1.1
    omega
  · omega
/-- The days of the first k months. -/
def cuM (y : Int) : Nat → Int
  | 0 => 0
  | k + 1 => cuM y k + moD y k
theorem cuM_bd (y : Int) : ∀ k, k ≤ 12 → 0 ≤ cuM y k ∧ cuM y k ≤ 31 * k
  | 0, _ => by simp [cuM]
  | k + 1, h => by
    have := cuM_bd y k (by omega)
    have := moD_bd y k (by omega)
    rw [cuM]
    omega
/-- The days of the years ahead of y. -/
@[irreducible] def yrs (y : Int) : Int := 365 * y + (y + 3) / 4 - (y + 99) / 100 + (y + 399) / 400
theorem yrs_bd (y : Int) (h0 : 0 ≤ y) (h : y ≤ 10000) : 0 ≤ yrs y ∧ yrs y ≤ 3652425 := by unfold yrs; omega
@[irreducible] def dayB (y m d : Int) : Bool := decide (0 ≤ y ∧ y ≤ 9999 ∧ 1 ≤ m ∧ m ≤ 12 ∧ 1 ≤ d ∧ d ≤ moD y (m - 1).toNat)
def dayN (y m d : Int) : Int := yrs y - 719528 + d - 1 + cuM y (m - 1).toNat
set_option maxRecDepth 100000 in
set_option maxHeartbeats 800000 in
theorem leap_any (y : Int) (w : World) : Calls Tryd.prog 16 #[.int .i64 y] w fun e w' => e = .returned (.bool (lpY y)) ∧ w = w' := by
  by_cases h0 : 0 ≤ y
  · have d0 : decide (0 ≤ y) = true := by simp; omega
    by_cases h1 : y ≤ 9999
    · have d1 : decide (y ≤ 9999) = true := by simp; omega
      by_cases h4 : y % 4 = 0
      · by_cases h100 : y % 100 = 0
        · by_cases h400 : y % 400 = 0
          · have hl : lpY y = true := (lpY_iff y).2 ⟨h0, h1, h4, .inr h400⟩
            rw [hl]
            have b1 : ((y % 4 : Int) == 0) = true := by simp; omega
            have b2 : ((y % 100 : Int) != 0) = false := by simp; omega
            have b3 : ((y % 400 : Int) == 0) = true := by simp; omega
            clear hl
            go_enter Tryd.func16, Tryd.ntmps16
            go_wp2
            go_ret
            exact ⟨rfl, rfl⟩
          · have hl : lpY y = false := (lpY_no y).2 (by omega)
            rw [hl]
            have b3 : ((y % 400 : Int) == 0) = false := by simp; omega
            clear hl
            go_enter Tryd.func16, Tryd.ntmps16
            go_wp2
            go_ret
            exact ⟨rfl, rfl⟩
        · have hl : lpY y = true := (lpY_iff y).2 ⟨h0, h1, h4, .inl h100⟩
          rw [hl]
          clear hl
          go_enter Tryd.func16, Tryd.ntmps16
          go_wp2
          go_ret
          exact ⟨rfl, rfl⟩
      · have hl : lpY y = false := (lpY_no y).2 (by omega)
        rw [hl]
        clear hl
        go_enter Tryd.func16, Tryd.ntmps16
        go_wp2
        go_ret
        exact ⟨rfl, rfl⟩
    · have hl : lpY y = false := (lpY_no y).2 (by omega)
      rw [hl]
      have d1 : decide (y ≤ 9999) = false := by simp; omega
      clear hl
      go_enter Tryd.func16, Tryd.ntmps16
      go_wp2
      go_ret
      exact ⟨rfl, rfl⟩
  · have hl : lpY y = false := (lpY_no y).2 (by omega)
    rw [hl]
    have d0 : decide (0 ≤ y) = false := by simp; omega
    clear hl
    go_enter Tryd.func16, Tryd.ntmps16
    go_wp2
    go_ret
    exact ⟨rfl, rfl⟩
set_option maxRecDepth 100000 in
set_option maxHeartbeats 800000 in
theorem leapR_any (y : Int) (w : World) : Calls Tryd.prog 17 #[.int .i64 y] w fun e w' => e = .returned (.bool (lpY y)) ∧ w = w' := by
  by_cases h0 : 0 ≤ y
  · have d0 : decide (0 ≤ y) = true := by simp; omega
    by_cases h1 : y ≤ 9999
    · have d1 : decide (y ≤ 9999) = true := by simp; omega
      by_cases h4 : y % 4 = 0
      · by_cases h100 : y % 100 = 0
        · by_cases h400 : y % 400 = 0
          · have hl : lpY y = true := (lpY_iff y).2 ⟨h0, h1, h4, .inr h400⟩
            rw [hl]
            have b1 : ((y % 4 : Int) == 0) = true := by simp; omega
            have b2 : ((y % 100 : Int) != 0) = false := by simp; omega
            have b3 : ((y % 400 : Int) == 0) = true := by simp; omega
            clear hl
            go_enter Tryd.func17, Tryd.ntmps17
            go_wp2
            go_ret
            exact ⟨rfl, rfl⟩
          · have hl : lpY y = false := (lpY_no y).2 (by omega)
            rw [hl]
            have b3 : ((y % 400 : Int) == 0) = false := by simp; omega
            clear hl
            go_enter Tryd.func17, Tryd.ntmps17
            go_wp2
            go_ret
            exact ⟨rfl, rfl⟩
        · have hl : lpY y = true := (lpY_iff y).2 ⟨h0, h1, h4, .inl h100⟩
          rw [hl]
          clear hl
          go_enter Tryd.func17, Tryd.ntmps17
          go_wp2
          go_ret
          exact ⟨rfl, rfl⟩
      · have hl : lpY y = false := (lpY_no y).2 (by omega)
        rw [hl]
        clear hl
        go_enter Tryd.func17, Tryd.ntmps17
        go_wp2
        go_ret
        exact ⟨rfl, rfl⟩
    · have hl : lpY y = false := (lpY_no y).2 (by omega)
      rw [hl]
      have d1 : decide (y ≤ 9999) = false := by simp; omega
      clear hl
      go_enter Tryd.func17, Tryd.ntmps17
      go_wp2
      go_ret
      exact ⟨rfl, rfl⟩
  · have hl : lpY y = false := (lpY_no y).2 (by omega)
    rw [hl]
    have d0 : decide (0 ≤ y) = false := by simp; omega
    clear hl
    go_enter Tryd.func17, Tryd.ntmps17
    go_wp2
    go_ret
    exact ⟨rfl, rfl⟩
theorem ixP0 (W : World) : (Instr.index 50 (.agg #[.int .i64 31, .int .i64 28, .int .i64 31, .int .i64 30, .int .i64 31, .int .i64 30, .int .i64 31, .int .i64 31, .int .i64 30, .int .i64 31, .int .i64 30, .int .i64 31]) (.int .i64 (((0 : Nat) : Int)))).run Tryd.prog W = .ok (.int .i64 31) W := by kernel_rfl
theorem ixP1 (W : World) : (Instr.index 50 (.agg #[.int .i64 31, .int .i64 28, .int .i64 31, .int .i64 30, .int .i64 31, .int .i64 30, .int .i64 31, .int .i64 31, .int .i64 30, .int .i64 31, .int .i64 30, .int .i64 31]) (.int .i64 (((1 : Nat) : Int)))).run Tryd.prog W = .ok (.int .i64 28) W := by kernel_rfl
theorem ixP2 (W : World) : (Instr.index 50 (.agg #[.int .i64 31, .int .i64 28, .int .i64 31, .int .i64 30, .int .i64 31, .int .i64 30, .int .i64 31, .int .i64 31, .int .i64 30, .int .i64 31, .int .i64 30, .int .i64 31]) (.int .i64 (((2 : Nat) : Int)))).run Tryd.prog W = .ok (.int .i64 31) W := by kernel_rfl
theorem ixP3 (W : World) : (Instr.index 50 (.agg #[.int .i64 31, .int .i64 28, .int .i64 31, .int .i64 30, .int .i64 31, .int .i64 30, .int .i64 31, .int .i64 31, .int .i64 30, .int .i64 31, .int .i64 30, .int .i64 31]) (.int .i64 (((3 : Nat) : Int)))).run Tryd.prog W = .ok (.int .i64 30) W := by kernel_rfl
theorem ixP4 (W : World) : (Instr.index 50 (.agg #[.int .i64 31, .int .i64 28, .int .i64 31, .int .i64 30, .int .i64 31, .int .i64 30, .int .i64 31, .int .i64 31, .int .i64 30, .int .i64 31, .int .i64 30, .int .i64 31]) (.int .i64 (((4 : Nat) : Int)))).run Tryd.prog W = .ok (.int .i64 31) W := by kernel_rfl
theorem ixP5 (W : World) : (Instr.index 50 (.agg #[.int .i64 31, .int .i64 28, .int .i64 31, .int .i64 30, .int .i64 31, .int .i64 30, .int .i64 31, .int .i64 31, .int .i64 30, .int .i64 31, .int .i64 30, .int .i64 31]) (.int .i64 (((5 : Nat) : Int)))).run Tryd.prog W = .ok (.int .i64 30) W := by kernel_rfl
theorem ixP6 (W : World) : (Instr.index 50 (.agg #[.int .i64 31, .int .i64 28, .int .i64 31, .int .i64 30, .int .i64 31, .int .i64 30, .int .i64 31, .int .i64 31, .int .i64 30, .int .i64 31, .int .i64 30, .int .i64 31]) (.int .i64 (((6 : Nat) : Int)))).run Tryd.prog W = .ok (.int .i64 31) W := by kernel_rfl
theorem ixP7 (W : World) : (Instr.index 50 (.agg #[.int .i64 31, .int .i64 28, .int .i64 31, .int .i64 30, .int .i64 31, .int .i64 30, .int .i64 31, .int .i64 31, .int .i64 30, .int .i64 31, .int .i64 30, .int .i64 31]) (.int .i64 (((7 : Nat) : Int)))).run Tryd.prog W = .ok (.int .i64 31) W := by kernel_rfl
theorem ixP8 (W : World) : (Instr.index 50 (.agg #[.int .i64 31, .int .i64 28, .int .i64 31, .int .i64 30, .int .i64 31, .int .i64 30, .int .i64 31, .int .i64 31, .int .i64 30, .int .i64 31, .int .i64 30, .int .i64 31]) (.int .i64 (((8 : Nat) : Int)))).run Tryd.prog W = .ok (.int .i64 30) W := by kernel_rfl
theorem ixP9 (W : World) : (Instr.index 50 (.agg #[.int .i64 31, .int .i64 28, .int .i64 31, .int .i64 30, .int .i64 31, .int .i64 30, .int .i64 31, .int .i64 31, .int .i64 30, .int .i64 31, .int .i64 30, .int .i64 31]) (.int .i64 (((9 : Nat) : Int)))).run Tryd.prog W = .ok (.int .i64 31) W := by kernel_rfl
theorem ixP10 (W : World) : (Instr.index 50 (.agg #[.int .i64 31, .int .i64 28, .int .i64 31, .int .i64 30, .int .i64 31, .int .i64 30, .int .i64 31, .int .i64 31, .int .i64 30, .int .i64 31, .int .i64 30, .int .i64 31]) (.int .i64 (((10 : Nat) : Int)))).run Tryd.prog W = .ok (.int .i64 30) W := by kernel_rfl
theorem ixP11 (W : World) : (Instr.index 50 (.agg #[.int .i64 31, .int .i64 28, .int .i64 31, .int .i64 30, .int .i64 31, .int .i64 30, .int .i64 31, .int .i64 31, .int .i64 30, .int .i64 31, .int .i64 30, .int .i64 31]) (.int .i64 (((11 : Nat) : Int)))).run Tryd.prog W = .ok (.int .i64 31) W := by kernel_rfl
theorem ixP (k : Nat) (h : k < 12) (W : World) : (Instr.index 50 (.agg #[.int .i64 31, .int .i64 28, .int .i64 31, .int .i64 30, .int .i64 31, .int .i64 30, .int .i64 31, .int .i64 31, .int .i64 30, .int .i64 31, .int .i64 30, .int .i64 31]) (.int .i64 ((k : Int)))).run Tryd.prog W = .ok (.int .i64 (mtL.getD k 0)) W := by
  match k, h with
  | 0, _ => exact ixP0 W
  | 1, _ => exact ixP1 W
  | 2, _ => exact ixP2 W
  | 3, _ => exact ixP3 W
  | 4, _ => exact ixP4 W
  | 5, _ => exact ixP5 W
  | 6, _ => exact ixP6 W
  | 7, _ => exact ixP7 W
  | 8, _ => exact ixP8 W
  | 9, _ => exact ixP9 W
  | 10, _ => exact ixP10 W
  | 11, _ => exact ixP11 W
  | k + 12, h => exact absurd h (by omega)
theorem ixQ0 (W : World) : (Instr.index 51 (.agg #[.int .i64 0, .int .i64 31, .int .i64 28, .int .i64 31, .int .i64 30, .int .i64 31, .int .i64 30, .int .i64 31, .int .i64 31, .int .i64 30, .int .i64 31, .int .i64 30, .int .i64 31]) (.int .i64 (((0 : Nat) : Int) + 1))).run Tryd.prog W = .ok (.int .i64 31) W := by kernel_rfl
theorem ixQ1 (W : World) : (Instr.index 51 (.agg #[.int .i64 0, .int .i64 31, .int .i64 28, .int .i64 31, .int .i64 30, .int .i64 31, .int .i64 30, .int .i64 31, .int .i64 31, .int .i64 30, .int .i64 31, .int .i64 30, .int .i64 31]) (.int .i64 (((1 : Nat) : Int) + 1))).run Tryd.prog W = .ok (.int .i64 28) W := by kernel_rfl
theorem ixQ2 (W : World) : (Instr.index 51 (.agg #[.int .i64 0, .int .i64 31, .int .i64 28, .int .i64 31, .int .i64 30, .int .i64 31, .int .i64 30, .int .i64 31, .int .i64 31, .int .i64 30, .int .i64 31, .int .i64 30, .int .i64 31]) (.int .i64 (((2 : Nat) : Int) + 1))).run Tryd.prog W = .ok (.int .i64 31) W := by kernel_rfl
theorem ixQ3 (W : World) : (Instr.index 51 (.agg #[.int .i64 0, .int .i64 31, .int .i64 28, .int .i64 31, .int .i64 30, .int .i64 31, .int .i64 30, .int .i64 31, .int .i64 31, .int .i64 30, .int .i64 31, .int .i64 30, .int .i64 31]) (.int .i64 (((3 : Nat) : Int) + 1))).run Tryd.prog W = .ok (.int .i64 30) W := by kernel_rfl
theorem ixQ4 (W : World) : (Instr.index 51 (.agg #[.int .i64 0, .int .i64 31, .int .i64 28, .int .i64 31, .int .i64 30, .int .i64 31, .int .i64 30, .int .i64 31, .int .i64 31, .int .i64 30, .int .i64 31, .int .i64 30, .int .i64 31]) (.int .i64 (((4 : Nat) : Int) + 1))).run Tryd.prog W = .ok (.int .i64 31) W := by kernel_rfl
theorem ixQ5 (W : World) : (Instr.index 51 (.agg #[.int .i64 0, .int .i64 31, .int .i64 28, .int .i64 31, .int .i64 30, .int .i64 31, .int .i64 30, .int .i64 31, .int .i64 31, .int .i64 30, .int .i64 31, .int .i64 30, .int .i64 31]) (.int .i64 (((5 : Nat) : Int) + 1))).run Tryd.prog W = .ok (.int .i64 30) W := by kernel_rfl
theorem ixQ6 (W : World) : (Instr.index 51 (.agg #[.int .i64 0, .int .i64 31, .int .i64 28, .int .i64 31, .int .i64 30, .int .i64 31, .int .i64 30, .int .i64 31, .int .i64 31, .int .i64 30, .int .i64 31, .int .i64 30, .int .i64 31]) (.int .i64 (((6 : Nat) : Int) + 1))).run Tryd.prog W = .ok (.int .i64 31) W := by kernel_rfl
theorem ixQ7 (W : World) : (Instr.index 51 (.agg #[.int .i64 0, .int .i64 31, .int .i64 28, .int .i64 31, .int .i64 30, .int .i64 31, .int .i64 30, .int .i64 31, .int .i64 31, .int .i64 30, .int .i64 31, .int .i64 30, .int .i64 31]) (.int .i64 (((7 : Nat) : Int) + 1))).run Tryd.prog W = .ok (.int .i64 31) W := by kernel_rfl
theorem ixQ8 (W : World) : (Instr.index 51 (.agg #[.int .i64 0, .int .i64 31, .int .i64 28, .int .i64 31, .int .i64 30, .int .i64 31, .int .i64 30, .int .i64 31, .int .i64 31, .int .i64 30, .int .i64 31, .int .i64 30, .int .i64 31]) (.int .i64 (((8 : Nat) : Int) + 1))).run Tryd.prog W = .ok (.int .i64 30) W := by kernel_rfl
theorem ixQ9 (W : World) : (Instr.index 51 (.agg #[.int .i64 0, .int .i64 31, .int .i64 28, .int .i64 31, .int .i64 30, .int .i64 31, .int .i64 30, .int .i64 31, .int .i64 31, .int .i64 30, .int .i64 31, .int .i64 30, .int .i64 31]) (.int .i64 (((9 : Nat) : Int) + 1))).run Tryd.prog W = .ok (.int .i64 31) W := by kernel_rfl
theorem ixQ10 (W : World) : (Instr.index 51 (.agg #[.int .i64 0, .int .i64 31, .int .i64 28, .int .i64 31, .int .i64 30, .int .i64 31, .int .i64 30, .int .i64 31, .int .i64 31, .int .i64 30, .int .i64 31, .int .i64 30, .int .i64 31]) (.int .i64 (((10 : Nat) : Int) + 1))).run Tryd.prog W = .ok (.int .i64 30) W := by kernel_rfl
theorem ixQ11 (W : World) : (Instr.index 51 (.agg #[.int .i64 0, .int .i64 31, .int .i64 28, .int .i64 31, .int .i64 30, .int .i64 31, .int .i64 30, .int .i64 31, .int .i64 31, .int .i64 30, .int .i64 31, .int .i64 30, .int .i64 31]) (.int .i64 (((11 : Nat) : Int) + 1))).run Tryd.prog W = .ok (.int .i64 31) W := by kernel_rfl
theorem ixQ (k : Nat) (h : k < 12) (W : World) : (Instr.index 51 (.agg #[.int .i64 0, .int .i64 31, .int .i64 28, .int .i64 31, .int .i64 30, .int .i64 31, .int .i64 30, .int .i64 31, .int .i64 31, .int .i64 30, .int .i64 31, .int .i64 30, .int .i64 31]) (.int .i64 ((k : Int) + 1))).run Tryd.prog W = .ok (.int .i64 (mtL.getD k 0)) W := by
  match k, h with
  | 0, _ => exact ixQ0 W
  | 1, _ => exact ixQ1 W
  | 2, _ => exact ixQ2 W
  | 3, _ => exact ixQ3 W
  | 4, _ => exact ixQ4 W
  | 5, _ => exact ixQ5 W
  | 6, _ => exact ixQ6 W
  | 7, _ => exact ixQ7 W
  | 8, _ => exact ixQ8 W
  | 9, _ => exact ixQ9 W
  | 10, _ => exact ixQ10 W
  | 11, _ => exact ixQ11 W
  | k + 12, h => exact absurd h (by omega)
set_option maxRecDepth 100000 in
set_option maxHeartbeats 800000 in
theorem month_any (y : Int) (k : Nat) (w : World) (h : k < 12) : Calls Tryd.prog 24 #[.int .i64 y, .int .i64 ((k : Int) + 1)] w fun e w' => e = .returned (.int .i64 (moD y k)) ∧ w = w' := by
  have hix := ixP k h
  have hm : moD y k = mtL.getD k 0 + if k = 1 ∧ lpY y = true then 1 else 0 := by unfold moD; rfl
  have hb : 28 ≤ mtL.getD k 0 ∧ mtL.getD k 0 ≤ 31 := by
    have : ∀ j : Fin 12, 28 ≤ mtL.getD j.val 0 ∧ mtL.getD j.val 0 ≤ 31 := by decide
    exact this ⟨k, h⟩
  have k12 : (k : Int) < 12 := by omega
  have HM := hide hm
  obtain ⟨t, ht⟩ : ∃ t, t = mtL.getD k 0 := ⟨_, rfl⟩
  rw [← ht] at hix hb HM
  obtain ⟨b0, b1⟩ := hb
  clear hm ht h
  by_cases h1 : k = 1
  · subst h1
    have hix2 : ∀ W, (Instr.index 50 (.agg #[.int .i64 31, .int .i64 28, .int .i64 31, .int .i64 30, .int .i64 31, .int .i64 30, .int .i64 31, .int .i64 31, .int .i64 30, .int .i64 31, .int .i64 30, .int .i64 31]) (.int .i64 1)).run Tryd.prog W = .ok (.int .i64 t) W := fun W => hix W
    clear hix
    obtain ⟨bb, hbb⟩ : ∃ b, b = lpY y := ⟨_, rfl⟩
    have HL := hide (fun W => leap_any y W)
    rw [← hbb] at HL HM
    clear hbb
    cases bb with
    | true =>
      have hm := HM.out
      rw [if_pos ⟨rfl, rfl⟩] at hm
      have HM2 := hide hm
      clear hm HM
      go_enter Tryd.func24, Tryd.ntmps24
      go_wp2_with (go_at_call 16; (with_reducible refine (HL.out _).mono ?_); rintro e w' ⟨rfl, rfl⟩)
      go_ret
      exact ⟨by rw [HM2.out]; rfl, rfl⟩
    | false =>
      have hm := HM.out
      rw [if_neg (fun h => Bool.false_ne_true h.2), Int.add_zero] at hm
      have HM2 := hide hm
      clear hm HM
      go_enter Tryd.func24, Tryd.ntmps24
      go_wp2_with (go_at_call 16; (with_reducible refine (HL.out _).mono ?_); rintro e w' ⟨rfl, rfl⟩)
      go_ret
      exact ⟨by rw [HM2.out]; rfl, rfl⟩
  · have hm := HM.out
    rw [if_neg (fun h => h1 h.1), Int.add_zero] at hm
    have HM2 := hide hm
    have n1 : ((k : Int) + 1 == 2) = false := by simp; omega
    have n2 : ¬ (k : Int) = 1 := by omega
    have n3 : ((k : Int) == 1) = false := by simp; omega
    clear hm HM h1
    go_enter Tryd.func24, Tryd.ntmps24
    go_wp2_with fail
    go_ret
    exact ⟨by rw [HM2.out]; rfl, rfl⟩
set_option maxRecDepth 100000 in
set_option maxHeartbeats 800000 in
theorem monthR_any (y : Int) (k : Nat) (w : World) (h : k < 12) : Calls Tryd.prog 26 #[.int .i64 y, .int .i64 ((k : Int) + 1)] w fun e w' => e = .returned (.int .i64 (moD y k)) ∧ w = w' := by
  have hix := ixQ k h
  have hm : moD y k = mtL.getD k 0 + if k = 1 ∧ lpY y = true then 1 else 0 := by unfold moD; rfl
  have hb : 28 ≤ mtL.getD k 0 ∧ mtL.getD k 0 ≤ 31 := by
    have : ∀ j : Fin 12, 28 ≤ mtL.getD j.val 0 ∧ mtL.getD j.val 0 ≤ 31 := by decide
    exact this ⟨k, h⟩
  have k12 : (k : Int) < 12 := by omega
  have HM := hide hm
  obtain ⟨t, ht⟩ : ∃ t, t = mtL.getD k 0 := ⟨_, rfl⟩
  rw [← ht] at hix hb HM
  obtain ⟨b0, b1⟩ := hb
  clear hm ht h
  by_cases h1 : k = 1
  · subst h1
    have hix2 : ∀ W, (Instr.index 51 (.agg #[.int .i64 0, .int .i64 31, .int .i64 28, .int .i64 31, .int .i64 30, .int .i64 31, .int .i64 30, .int .i64 31, .int .i64 31, .int .i64 30, .int .i64 31, .int .i64 30, .int .i64 31]) (.int .i64 2)).run Tryd.prog W = .ok (.int .i64 t) W := fun W => hix W
    clear hix
    obtain ⟨bb, hbb⟩ : ∃ b, b = lpY y := ⟨_, rfl⟩
    have HL := hide (fun W => leapR_any y W)
    rw [← hbb] at HL HM
    clear hbb
    cases bb with
    | true =>
      have hm := HM.out
      rw [if_pos ⟨rfl, rfl⟩] at hm
      have HM2 := hide hm
      clear hm HM
      go_enter Tryd.func26, Tryd.ntmps26
      go_wp2_with (go_at_call 17; (with_reducible refine (HL.out _).mono ?_); rintro e w' ⟨rfl, rfl⟩)
      go_ret
      exact ⟨by rw [HM2.out]; rfl, rfl⟩
    | false =>
      have hm := HM.out
      rw [if_neg (fun h => Bool.false_ne_true h.2), Int.add_zero] at hm
      have HM2 := hide hm
      clear hm HM
      go_enter Tryd.func26, Tryd.ntmps26
      go_wp2_with (go_at_call 17; (with_reducible refine (HL.out _).mono ?_); rintro e w' ⟨rfl, rfl⟩)
      go_ret
      exact ⟨by rw [HM2.out]; rfl, rfl⟩
  · have hm := HM.out
    rw [if_neg (fun h => h1 h.1), Int.add_zero] at hm
    have HM2 := hide hm
    have n1 : ((k : Int) + 1 == 2) = false := by simp; omega
    have n2 : ¬ (k : Int) = 1 := by omega
    have n3 : ((k : Int) == 1) = false := by simp; omega
    clear hm HM h1
    go_enter Tryd.func26, Tryd.ntmps26
    go_wp2_with fail
    go_ret
    exact ⟨by rw [HM2.out]; rfl, rfl⟩
set_option maxRecDepth 100000 in
set_option maxHeartbeats 800000 in
theorem years_any (y : Int) (w : World) (h0 : 0 ≤ y) (h1 : y ≤ 10000) : Calls Tryd.prog 25 #[.int .i64 y] w fun e w' => e = .returned (.int .i64 (yrs y)) ∧ w = w' := by
  have HY := hide (show yrs y = 365 * y + (y + 3) / 4 - (y + 99) / 100 + (y + 399) / 400 by unfold yrs; rfl)
  go_enter Tryd.func25, Tryd.ntmps25
  go_wp2
  go_ret
  exact ⟨by rw [HY.out]; rfl, rfl⟩
@[irreducible] def lpN (y : Int) : Int := if y = 0 then 0 else (y - 1) / 4 - (y - 1) / 100 + (y - 1) / 400 + 1
set_option maxRecDepth 100000 in
set_option maxHeartbeats 800000 in
theorem func0_any (y : Int) (w : World) (h0 : 0 ≤ y) (h1 : y ≤ 10000) : Calls Tryd.prog 27 #[.int .i64 y] w fun e w' => e = .returned (.int .i64 (lpN y)) ∧ w = w' := by
  by_cases hy : y = 0
  · subst hy
    have HY := hide (show lpN 0 = 0 by unfold lpN; rfl)
    go_enter Tryd.func27, Tryd.ntmps27
    go_wp2
    go_ret
    exact ⟨by rw [HY.out]; rfl, rfl⟩
  · have HY := hide (show lpN y = (y - 1) / 4 - (y - 1) / 100 + (y - 1) / 400 + 1 by unfold lpN; rw [if_neg hy])
    have n0 : (y == 0) = false := by simp; omega
    have n1 : 1 ≤ y := by omega
    go_enter Tryd.func27, Tryd.ntmps27
    go_wp2
    go_ret
    exact ⟨by rw [HY.out]; rfl, rfl⟩
theorem yrs_lpN (y : Int) (h0 : 0 ≤ y) : yrs y = 365 * y + lpN y := by
  unfold yrs lpN
  split <;> omega
end Go.Proofs.YtbogjebipnmckaaDoor
